/-
  The abstract machine: calls in regions that draw their order, and such regions as a demand that can be worked off.
  The abstract machine: code as a demand that simp can work off: what is decided is run; what is not stands still.
  The abstract machine: counted loops, and small facts about numbers.
  The abstract machine: loops whose states are told by the slots that turn; lists.
  Denotations: small facts that printed proofs use.
  Denotations: rows of cells; what the printed proofs use.
  The abstract machine: a contract over a small heap serves in every heap that holds such objects under other names.
  Calls by contracts over small heaps.
  Regions run by the kernel: what is not decided by reckoning (tests, lengths, elements, answers of calls) is told ahead ('Orc'), and what is told is asked for as a list of facts.
-/
import Derived.Test.YtmoedieenlaegaaGreatDoorWC03
namespace Go.Proofs.YtmoedieenlaegaaGreatDoor
open Go.RowKit
set_option linter.unusedSimpArgs false
set_option linter.unusedVariables false
section
theorem j2 {α β:Type} {f f':α→Option β}:∀ {l:List α},(∀ x∈l,f' x=f x)→mapO f' l=mapO f l
  | [],_=>rfl
  | a::r,h=>by
    simp only [mapO]
    rw [h a List.mem_cons_self,j2 (l:=r) fun x hx=>h x (List.mem_cons_of_mem _ hx)]
def jB (h:Nat→Option Zah):Nat→AV→List Nat
  | 0,_=>[]
  | d+1,x=>match x with
    | .agg cs=>cs.flatMap (jB h d)
    | .tuple cs=>cs.flatMap (jB h d)
    | .Zam id off len=>id::match h id with
      | some (.rows _ rows)=>((rows.drop off).take len).flatMap fun row=>row.flatMap (jB h d)
      | _=>[]
    | _=>[]
theorem X4 {h h':Nat→Option Zah}:∀ (d:Nat) (x:AV),(∀ i∈jB h d x,h' i=h i)→zC h' d x=zC h d x:=by
  intro d
  induction d with
  | zero=>intro x _;rfl
  | succ d ih=>
    intro x hi
    cases x with
    | agg cs=>
      simp only [zC]
      rw [j2 fun c hc=>ih c fun i hm=>hi i (by simp only [jB,List.mem_flatMap];exact ⟨c,hc,hm⟩)]
    | tuple cs=>
      simp only [zC]
      rw [j2 fun c hc=>ih c fun i hm=>hi i (by simp only [jB,List.mem_flatMap];exact ⟨c,hc,hm⟩)]
    | Zam id off len=>
      simp only [zC]
      rw [hi id (by simp [jB])]
      split
      · rename_i sz rows ho
        split
        · rw [j2 fun row hrow=>j2 fun c hc=>ih c fun i hm=>hi i (by
            simp only [jB,ho,List.mem_cons,List.mem_flatMap]
            exact .inr ⟨row,hrow,c,hc,hm⟩)]
        · rfl
      · rfl
    | _=>rfl
theorem zdP {h:Nat→Option Zah}:∀ (d:Nat) (x:AV),xo d x=true→jB h d x=[]:=by
  intro d
  induction d with
  | zero=>intro x _;rfl
  | succ d ih=>
    intro x hx
    cases x with
    | agg cs=>
      simp only [xo,List.all_eq_true] at hx
      simp only [jB,List.flatMap_eq_nil_iff]
      exact fun c hc=>ih c (hx c hc)
    | tuple cs=>
      simp only [xo,List.all_eq_true] at hx
      simp only [jB,List.flatMap_eq_nil_iff]
      exact fun c hc=>ih c (hx c hc)
    | Zam id off len=>simp [xo] at hx
    | _=>rfl
section
variable {C:Ctx} {nt:Fr} {f:Nat} {args:List AV} {h0:Nat→Option Zah} {d:Nat} {ivs:List IV} {r:IV}
theorem LCall.pure (hp:APure C f ivs r) (hm:(args.all (xo d))=true) (hx:mapO (zC h0 d) args=some ivs):LCall C f args h0 [] (.imm r) [] []:=by
  refine ⟨hp.1,fun g h N w vs _ _ R hv => ?_⟩
  rw [QW]
  have hx':mapO (zC h d) args=some ivs:=by
    rw [j2 fun x hxm=>X4 (h:=h0) d x fun i hi => ?_]
    · exact hx
    · rw [zdP d x (List.all_eq_true.1 hm x hxm)] at hi;cases hi
  obtain ⟨h1,h2⟩:=qb hx'
  refine (hp.2 g.Z w vs R.zlt ⟨R.fix.1,R.fix.2.1⟩ ⟨by rw [h1];exact hv.1,fun j c u hc hu => ?_⟩).mono ?_
  · have hlt:j < args.length:=by rw [←h1];exact (List.getElem?_eq_some_iff.1 hc).1
    obtain ⟨c',h3,h4⟩:=h2 j args[j] (by simp)
    rw [hc] at h3
    cases h3
    exact Kj d _ _ _ (List.all_eq_true.1 hm _ (List.getElem_mem hlt)) h4 (hv.2 j args[j] u (by simp) hu)
  · rintro e w' ⟨v,Z',rfl,hr,hZ,hlt,hB⟩
    exact ⟨v,⟨g.ρ,Z'⟩,rfl,xw R hB hZ,yY R hB hZ hlt,.imm _ _ hr⟩
theorem LCall.snap (hp:APure C f ivs r) (hx:mapO (zC h0 d) args=some ivs) (hf:xS r=true):LCall C f args h0 (args.flatMap (jB h0 d)) (.imm r) [] []:=by
  refine ⟨hp.1,fun g h N w vs hag _ R hv => ?_⟩
  rw [QW]
  have hx':mapO (zC h d) args=some ivs:=by
    rw [j2 fun x hxm=>X4 (h:=h0) d x fun i hi=>hag i (List.mem_flatMap.2 ⟨x,hxm,hi⟩)]
    exact hx
  obtain ⟨h1,h2⟩:=qb hx'
  let Z1:Nat→Nat:=fun b=>match w.heap[b]? with
    | some (.cells c _ _)=>max (g.Z b) c.size
    | _=>g.Z b
  have hz1:∀ b,g.Z b≤Z1 b:=fun b=>by
    show g.Z b≤(match w.heap[b]? with | some (.cells c _ _)=>max (g.Z b) c.size | _=>g.Z b)
    split
    · exact Nat.le_max_left _ _
    · exact Nat.le_refl _
  have hlt1:∀ b,0 < Z1 b→b < w.heap.size:=fun b hb=>by
    rcases Nat.lt_or_ge b w.heap.size with h | h
    · exact h
    · have hn:w.heap[b]?=none:=Array.getElem?_eq_none h
      have:Z1 b=g.Z b:=by show (match w.heap[b]? with | some (.cells c _ _)=>max (g.Z b) c.size | _=>g.Z b)=g.Z b;rw [hn]
      exact R.zlt b (by omega)
  have hO:∀ i b sz rows,g.ρ i=some b→h i=some (.rows sz rows)→rows.length*sz≤Z1 b:=fun i b sz rows hb ho=>by
    obtain ⟨hz,c,e,hc,hlen,hcells⟩:=R.obj i b _ hb ho
    have hZ:Z1 b=max (g.Z b) c.size:=by show (match w.heap[b]? with | some (.cells c _ _)=>max (g.Z b) c.size | _=>g.Z b)=_;rw [hc]
    rw [hZ]
    refine Nat.le_trans ?_ (Nat.le_max_right _ _)
    rcases Nat.eq_zero_or_pos (rows.length*sz) with h0 | h0
    · omega
    · have hs:0 < sz:=Nat.pos_of_ne_zero fun e=>by subst e;simp at h0
      have hr:0 < rows.length:=Nat.pos_of_ne_zero fun e=>by rw [e] at h0;simp at h0
      have hrow:rows[rows.length - 1]?=some (rows[rows.length - 1]'(by omega)):=by simp
      have hl:=hlen _ _ hrow
      obtain ⟨cv,h3,_⟩:=hcells (rows.length - 1) _ (sz - 1) ((rows[rows.length - 1]'(by omega))[sz - 1]'(by omega)) hrow (by simp)
      have hlt:=(Array.getElem?_eq_some_iff.1 h3).1
      have:(rows.length - 1)*sz+sz=rows.length*sz:=by
        rw [←Nat.succ_mul];congr 1;omega
      omega
  refine (hp.2 Z1 w vs hlt1 ⟨R.fix.1,R.fix.2.1⟩ ⟨by rw [h1];exact hv.1,fun j c u hc hu => ?_⟩).mono ?_
  · have hlt:j < args.length:=by rw [←h1];exact (List.getElem?_eq_some_iff.1 hc).1
    obtain ⟨c',h3,h4⟩:=h2 j args[j] (by simp)
    rw [hc] at h3
    cases h3
    exact W9 R Z1 hz1 hO d _ _ _ h4 (hv.2 j args[j] u (by simp) hu)
  · rintro e w' ⟨v,Z',rfl,hr,hZ,hlt,hB⟩
    exact ⟨v,g,rfl,xw (Z':=g.Z) R hB (fun _ _=>rfl),yY (Z':=g.Z) R hB (fun _ _=>rfl) (fun b hb=>Nat.lt_of_lt_of_le (R.zlt b hb) hB.size),.imm _ _ (zbj hf hr)⟩
end
def DCall (C:Ctx) (f:Nat) (args:List AV) (heap:List (Nat×Zah)) (KD:List Nat→AV→List (Nat×Zah)→Prop):Prop:=∃ rd r ups,LCall C f args (za heap) rd r ups []∧KD rd r ups
theorem DCall.pure {C:Ctx} {f:Nat} {args:List AV} {heap:List (Nat×Zah)} {d:Nat} {ivs:List IV} {r:IV} {KD:List Nat→AV→List (Nat×Zah)→Prop} (hp:APure C f ivs r) (hm:(args.all (xo d))=true) (hx:mapO (zC (za heap) d) args=some ivs)
    (hK:KD [] (.imm r) []):DCall C f args heap KD:=⟨_,_,_,LCall.pure hp hm hx,hK⟩
theorem DCall.snap {C:Ctx} {f:Nat} {args:List AV} {heap:List (Nat×Zah)} {d:Nat} {ivs:List IV} {r:IV} {KD:List Nat→AV→List (Nat×Zah)→Prop} (hp:APure C f ivs r) (hx:mapO (zC (za heap) d) args=some ivs) (hf:xS r=true)
    (hK:KD (args.flatMap (jB (za heap) d)) (.imm r) []):DCall C f args heap KD:=⟨_,_,_,LCall.snap hp hx hf,hK⟩
def wC (ord:List Nat) (j:Nat) (W R:List (Nat×Nat)) (us rd:List Nat):Bool:=
  (W.all fun p=>!(us.contains p.2||rd.contains p.2)||bef ord p.1 j)&&us.all fun x=>R.all fun p=>!(p.2 == x)||bef ord p.1 j
def jo (j:Nat) (l:List Nat) (W:List (Nat×Nat)):List (Nat×Nat):=l.map (fun x=>(j,x))++W
def dNext (ord:List Nat) (j:Nat) (W R:List (Nat×Nat)) (dst:Option Nat) (st:St) (next:Nat→List (Nat×Nat)→List (Nat×Nat)→St→Prop):List Nat→AV→List (Nat×Zah)→Prop:=
  fun rd r ups=>wC ord j W R (z1 ups) rd=true∧next (j+1) (jo j (z1 ups) W) (jo j rd R) (st.after dst r ups)
def YJ (dst:Option Nat) (st:St) (next:St→Prop):List Nat→AV→List (Nat×Zah)→Prop:=fun rd r ups=>ups=[]∧next (st.after dst r [])
def qj (KD:List Nat→AV→List (Nat×Zah)→Prop) (rd:List Nat):Option (AV×List (Nat×Zah))→Prop
  | some (r,ups)=>KD rd r ups
  | none=>False
def YK (C:Ctx) (KD:List Nat→AV→List (Nat×Zah)→Prop) (heap:List (Nat×Zah)) (args:List AV):AV→Prop
  | .func f first caps=>DCall C f (first++args++caps) heap KD
  | _=>False
def dOp (C:Ctx) (KD:List Nat→AV→List (Nat×Zah)→Prop) (st:St):AOp→Prop
  | .call f args=>YK C KD st.heap (args.map (zd st.env)) (zd st.env f)
  | op=>qj KD (zk op (zd st.env)) (evalOp op (zd st.env) (za st.heap) st.next)
def dG (C:Ctx) (op:AOp) (KD:List Nat→AV→List (Nat×Zah)→Prop) (st:St):Bool→Prop
  | true=>dOp C KD st op
  | false=>KD [] .undef []
def dGV (C:Ctx) (op:AOp) (KD:List Nat→AV→List (Nat×Zah)→Prop) (st:St) (want:Bool):AV→Prop
  | .imm (.bool b)=>dG C op KD st (b == want)
  | .undef=>dG C op KD st false
  | _=>False
def dIt (C:Ctx) (it:AItem) (KD:List Nat→AV→List (Nat×Zah)→Prop) (st:St):Prop:=match it.guard with
  | none=>dOp C KD st it.op
  | some (t,want)=>dGV C it.op KD st want ((za st.env t).getD .top)
def evd (C:Ctx) (ord:List Nat) (K:St→Prop):List AItem→Nat→List (Nat×Nat)→List (Nat×Nat)→St→Prop
  | [],_,_,_,st=>K st
  | it::rest,j,W,R,st=>dIt C it (dNext ord j W R it.dst st (evd C ord K rest)) st
def evr (C:Ctx) (K:St→Prop):List AItem→St→Prop
  | [],st=>K st
  | it::rest,st=>dIt C it (YJ it.dst st (evr C K rest)) st
section
variable {C:Ctx} {nt:Fr}
theorem zbk {it:AItem} {KD:List Nat→AV→List (Nat×Zah)→Prop} {st:St} (h:dIt C it KD st):∃ rc:Rec,rc.dst=it.dst∧EvD C it st rc∧KD rc.rd rc.r rc.ups∧rc.ex=[]:=by
  have op:∀ {g},zT st.env it.guard=some true→g=it.guard→dOp C KD st it.op→∃ rc:Rec,rc.dst=it.dst∧EvD C it st rc∧KD rc.rd rc.r rc.ups∧rc.ex=[]:=fun hg _ ho=>by
    obtain ⟨dst,op,gd⟩:=it
    simp only at ho hg
    cases op
    case call f args=>
      simp only [dOp,YK] at ho
      split at ho
      · rename_i f' first caps hf
        obtain ⟨rd,r,ups,hl,hk⟩:=ho
        refine ⟨⟨dst,r,ups,rd,[]⟩,rfl,?_,hk,rfl⟩
        simp only [EvD,hg,hf]
        exact hl
      · exact ho.elim
    all_goals
      simp only [dOp,qj] at ho
      split at ho
      · rename_i r ups hev
        refine ⟨⟨dst,r,ups,_,[]⟩,rfl,?_,ho,rfl⟩
        simp only [EvD,hg]
        exact ⟨hev,rfl,trivial⟩
      · exact ho.elim
  have off:zT st.env it.guard=some false→KD [] .undef []→∃ rc:Rec,rc.dst=it.dst∧EvD C it st rc∧KD rc.rd rc.r rc.ups∧rc.ex=[]:=fun hg ho=>by
    refine ⟨⟨it.dst,.undef,[],[],[]⟩,rfl,?_,ho,rfl⟩
    simp only [EvD,hg,and_self]
  unfold dIt at h
  split at h
  · rename_i hg;exact op (by rw [hg];rfl) hg.symm h
  · rename_i t want hg
    unfold dGV at h
    split at h
    · rename_i b hb
      cases hbw:(b == want) with
      | true=>rw [hbw] at h;exact op (by rw [hg];simp only [zT,hb,hbw]) hg.symm h
      | false=>rw [hbw] at h;exact off (by rw [hg];simp only [zT,hb,hbw]) h
    · rename_i hb;exact off (by rw [hg];simp only [zT,hb]) h
    · exact h.elim
theorem Xp {ord:List Nat} {recs:List Rec} (h:∀ (i j:Nat) (ri rj:Rec),recs[i]?=some ri→recs[j]?=some rj→i < j→jx ri rj=true→bef ord i j=true):Z0 ord recs=true:=by
  unfold Z0
  refine List.all_eq_true.2 fun j hj => ?_
  split
  · rename_i rj hrj
    refine Bool.or_eq_true_iff.2 (.inr (List.all_eq_true.2 fun i hi => ?_))
    simp at hi
    split
    · rename_i ri hri
      cases hc:jx ri rj with
      | true=>simp [h i j ri rj hri hrj hi hc]
      | false=>simp
    · rfl
  · rfl
theorem zbl {ord:List Nat} {K:St→Prop}:∀ (items:List AItem) (W R:List (Nat×Nat)) (st:St) (pre:List Rec),evd C ord K items pre.length W R st →
    (∀ (i:Nat) (ri:Rec) (x:Nat),pre[i]?=some ri→x∈z1 ri.ups→(i,x)∈W)→(∀ (i:Nat) (ri:Rec) (x:Nat),pre[i]?=some ri→x∈ri.rd→(i,x)∈R) →
    (∀ (i j:Nat) (ri rj:Rec),pre[i]?=some ri→pre[j]?=some rj→i < j→jx ri rj=true→bef ord i j=true) →
    ∃ recs st',Zf C items st recs st'∧(∀ (i j:Nat) (ri rj:Rec),(pre++recs)[i]?=some ri→(pre++recs)[j]?=some rj→i < j→jx ri rj=true→bef ord i j=true)∧K st'∧∀ rc∈recs,rc.ex=[]
  | [],W,R,st,pre,h,hW,hR,hp=>⟨[],st,rfl,by simpa using hp,h,by simp⟩
  | it::rest,W,R,st,pre,h,hW,hR,hp=>by
    obtain ⟨rc,h1,h2,⟨hok,h3⟩,hx0⟩:=zbk h
    have hlen:(pre++[rc]).length=pre.length+1:=by simp
    have split:∀ (i:Nat) (ri:Rec),(pre++[rc])[i]?=some ri→pre[i]?=some ri∨(i=pre.length∧ri=rc):=fun i ri hi=>by
      rw [List.getElem?_append] at hi
      split at hi
      · exact .inl hi
      · rename_i hge
        rcases Nat.eq_or_lt_of_le (Nat.le_of_not_lt hge) with e | e
        · rw [←e] at hi;simp at hi;exact .inr ⟨e.symm,hi.symm⟩
        · have:i - pre.length≠0:=by omega
          obtain ⟨m,hm⟩:=Nat.exists_eq_succ_of_ne_zero this
          rw [hm] at hi;simp at hi
    obtain ⟨recs,st',h4,h5,h6,hx1⟩:=zbl rest (jo pre.length (z1 rc.ups) W) (jo pre.length rc.rd R) (st.after it.dst rc.r rc.ups) (pre++[rc]) (by rw [hlen];exact h3)
      (fun i ri x hi hx=>by
        rcases split i ri hi with hi | ⟨rfl,rfl⟩
        · exact List.mem_append_right _ (hW i ri x hi hx)
        · exact List.mem_append_left _ (List.mem_map.2 ⟨x,hx,rfl⟩))
      (fun i ri x hi hx=>by
        rcases split i ri hi with hi | ⟨rfl,rfl⟩
        · exact List.mem_append_right _ (hR i ri x hi hx)
        · exact List.mem_append_left _ (List.mem_map.2 ⟨x,hx,rfl⟩))
      (fun i j ri rj hi hj hlt hc=>by
        rcases split j rj hj with hj | ⟨rfl,rfl⟩
        · rcases split i ri hi with hi | ⟨rfl,rfl⟩
          · exact hp i j ri rj hi hj hlt hc
          · have:=(List.getElem?_eq_some_iff.1 hj).1;omega
        · rcases split i ri hi with hi | ⟨rfl,rfl⟩
          · simp only [wC,Bool.and_eq_true,List.all_eq_true] at hok
            simp only [jx,Bool.or_eq_true,List.any_eq_true] at hc
            rcases hc with ⟨x,hx,hc⟩ | ⟨x,hx,hc⟩
            · have:=hok.1 (i,x) (hW i ri x hi hx)
              simp only [Bool.or_eq_true,Bool.not_eq_true',Bool.or_eq_false_iff] at this
              rcases this with ⟨h7,h8⟩ | h7
              · simp only [h7,h8] at hc;simp at hc
              · exact h7
            · have:=hok.2 x hx (i,x) (hR i ri x hi (by simpa using hc))
              simpa using this
          · omega)
    refine ⟨rc::recs,st',⟨h1,h2,h4⟩,?_,h6,fun r hr => ?_⟩
    · simpa using h5
    · rcases List.mem_cons.1 hr with rfl | hr
      · exact hx0
      · exact hx1 r hr
theorem zbm {K:St→Prop}:∀ (items:List AItem) (st:St),evr C K items st→∃ recs st',Zf C items st recs st'∧(∀ rc∈recs,rc.ups=[])∧K st'∧∀ rc∈recs,rc.ex=[]
  | [],st,h=>⟨[],st,rfl,by simp,h,by simp⟩
  | it::rest,st,h=>by
    obtain ⟨rc,h1,h2,⟨hu,h3⟩,hx0⟩:=zbk h
    obtain ⟨recs,st',h4,h5,h6,hx1⟩:=zbm rest _ h3
    refine ⟨rc::recs,st',⟨h1,h2,by rw [hu];exact h4⟩,fun r hr => ?_,h6,fun r hr => ?_⟩
    · rcases List.mem_cons.1 hr with rfl | hr
      · exact hu
      · exact h5 r hr
    · rcases List.mem_cons.1 hr with rfl | hr
      · exact hx0
      · exact hx1 r hr
theorem Kq {n0:Nat} {recs:List Rec} (h:∀ rc∈recs,rc.ex=[]):Vc n0 recs:=by
  constructor
  · intro k rc i hk hi
    rw [h rc (List.mem_of_getElem? hk)] at hi;cases hi
  · intro k l rk rl i hk _ hi
    rw [h rk (List.mem_of_getElem? hk)] at hi;cases hi
def X5 (items:List AItem):Bool:=items.all fun it=>match it.op with
  | .alloc _ _ | .box _ _ | .bslice _ _ _ _ | .store _ _ _ | .mkmap | .upd _ _ _ _ | .mks _ _ _ _ | .app _ _ _ _ | .copy _ _ _=>false
  | _=>true
theorem zg4 {C:CtxY} {ord:List Nat} {items:List AItem} {ks:Option (List Nat)} {K:Exit→St→Prop} {st:St} (h:evd C ord (fun st'=>K .normal (st'.keep ks)) items 0 [] [] st):awp C nt (.region true ord items ks) K st:=by
  obtain ⟨recs,st',h1,h2,h3,h4⟩:=zbl (ord:=ord) items [] [] st [] h (by simp) (by simp) (by simp)
  exact Xo h1 (Xp (by simpa using h2)) (Kq h4) st'.next (Nat.le_refl _) (fun rc hr i hi=>by rw [h4 rc hr] at hi;cases hi) h3
theorem zg5 {C:CtxY} {ord:List Nat} {items:List AItem} {ks:Option (List Nat)} {K:Exit→St→Prop} {st:St} (h:evr C (fun st'=>K .normal (st'.keep ks)) items st):awp C nt (.region true ord items ks) K st:=by
  obtain ⟨recs,st',h1,h2,h3,h4⟩:=zbm items st h
  refine Xo h1 (Xp fun i j ri rj hi hj hlt hc => ?_) (Kq h4) st'.next (Nat.le_refl _) (fun rc hr i hi=>by rw [h4 rc hr] at hi;cases hi) h3
  simp [jx,z1,h2 ri (List.mem_of_getElem? hi),h2 rj (List.mem_of_getElem? hj)] at hc
end
end
section
def Zt (dst:Option Nat) (env:List (Nat×AV)) (K:St→Prop):AV→List (Nat×Zah)→Nat→Prop:=fun r heap' next'=>K (St.put {env:=env,heap:=heap',next:=next'+1} dst r)
def zW (dst:Option Nat) (K:St→Prop) (st:St):Option (AV×List (Nat×Zah))→Prop
  | some (r,ups)=>K (st.after dst r ups)
  | none=>False
def X6 (C:CtxY) (dst:Option Nat) (K:St→Prop) (st:St) (args:List AV):AV→Prop
  | .func f first caps=>ACall C f (first++args++caps) st.heap st.next (Zt dst st.env K)
  | .yld l id=>C.Y l id args st.heap st.next (Zt dst st.env K)
  | _=>False
def evOp (C:CtxY) (dst:Option Nat) (K:St→Prop) (st:St):AOp→Prop
  | .call f args=>X6 C dst K st (args.map (zd st.env)) (zd st.env f)
  | op=>zW dst K st (evalOp op (zd st.env) (za st.heap) st.next)
def evG (C:CtxY) (dst:Option Nat) (op:AOp) (K:St→Prop) (st:St):Bool→Prop
  | true=>evOp C dst K st op
  | false=>K (st.after dst .undef [])
def QY (C:CtxY) (dst:Option Nat) (op:AOp) (K:St→Prop) (st:St) (want:Bool):AV→Prop
  | .imm (.bool b)=>evG C dst op K st (b == want)
  | .undef=>evG C dst op K st false
  | _=>False
def QZ (C:CtxY) (it:AItem) (K:St→Prop) (st:St):Prop:=match it.guard with
  | none=>evOp C it.dst K st it.op
  | some (t,want)=>QY C it.dst it.op K st want ((za st.env t).getD .top)
theorem zbn (C:CtxY) (dst:Option Nat) (op:AOp) (g:Option (Nat×Bool)) (K:St→Prop) (st:St) (hg:zT st.env g=some true):wA C ⟨dst,op,g⟩ st K=evOp C dst K st op:=by
  unfold wA
  rw [hg]
  cases op
  case call f args=>
    simp only [evOp]
    cases zd st.env f<;>rfl
  all_goals
    simp only [evOp]
    generalize evalOp _ _ _ _=r
    rcases r with _ | ⟨r,ups⟩<;>rfl
theorem zg6 (C:CtxY) (it:AItem) (K:St→Prop) (st:St) (h:QZ C it K st):wA C it st K:=by
  obtain ⟨dst,op,g⟩:=it
  unfold QZ at h
  split at h
  · rename_i hg
    simp only at hg
    subst hg
    rw [zbn C dst op none K st rfl]
    exact h
  · rename_i t want hg
    simp only at hg
    subst hg
    unfold QY at h
    split at h
    · rename_i b hb
      cases hbw:(b == want) with
      | true=>
        rw [hbw] at h
        rw [zbn C dst op _ K st (by simp only [zT,hb,hbw])]
        exact h
      | false=>
        rw [hbw] at h
        unfold wA
        simp only [zT,hb,hbw]
        exact h
    · rename_i hb
      unfold wA
      simp only [zT,hb]
      exact h
    · exact h.elim
def evl (C:CtxY):List AItem→(St→Prop)→St→Prop
  | [],K,st=>K st
  | it::rest,K,st=>QZ C it (evl C rest K) st
theorem yL (C:CtxY):∀ (l:List AItem) (K:St→Prop) (st:St),evl C l K st→evs C l K st
  | [],K,st,h=>h
  | it::rest,K,st,h=>by
    have:evl C rest K=evl C rest K:=rfl
    have h1:=zg6 C it _ st h
    simp only [evs]
    unfold wA at h1 ⊢
    split
    · rename_i hg;rw [hg] at h1;exact yL C rest K _ h1
    · rename_i hg
      rw [hg] at h1
      simp only at h1
      split
      · rename_i f args hop
        rw [hop] at h1
        simp only at h1
        split
        · rename_i hf
          rw [hf] at h1
          exact ACall.mono (fun r h n hk=>yL C rest K _ hk) h1
        · rename_i l id hf
          rw [hf] at h1
          exact C.ymono _ _ _ _ _ _ _ (fun r h n hk=>yL C rest K _ hk) h1
        · rename_i hf hf2
          split at h1
          · rename_i f' first caps hff;exact absurd hff (hf _ _ _)
          · rename_i l id hff;exact absurd hff (hf2 _ _)
          · exact h1
      · rename_i hop
        split at h1
        · rename_i f args h3;exact absurd h3 (hop _ _)
        · split
          · rename_i r ups hev;rw [hev] at h1;exact yL C rest K _ h1
          · rename_i hev;rw [hev] at h1;exact h1
    · rename_i hg;rw [hg] at h1;exact h1
def wpC (b:AV) (x y:St→Prop) (st:St):Prop:=match b with
  | .imm (.bool true)=>x st
  | .imm (.bool false)=>y st
  | _=>False
def Z4 (ks:Option (List Nat)) (K:Exit→St→Prop):St→Prop:=fun st=>K .normal (st.keep ks)
def wpD (C:CtxY) (b:Bool) (ord:List Nat) (items:List AItem) (K:St→Prop) (st:St):Prop:=match b with
  | true=>evr C K items st
  | false=>evd C ord K items 0 [] [] st
def wpx (C:CtxY) (nt:Fr):ZaC→(Exit→St→Prop)→St→Prop
  | .skip,K,st=>K .normal st
  | .region false _ items ks,K,st=>evl C items (Z4 ks K) st
  | .region true ord items ks,K,st=>wpD C (X5 items) ord items (Z4 ks K) st
  | .seq x y,K,st=>wpx C nt x (yX (wpx C nt y K) K) st
  | .cond c x y,K,st=>wpC (zd st.env c) (wpx C nt x K) (wpx C nt y K) st
  | .block id x,K,st=>wpx C nt x (wh id K) st
  | .loop x,K,st=>awp C nt (.loop x) K st
  | .scope x,K,st=>C.ro=none∧wpx C nt x (Zs K) st
  | .range f ps x y,K,st=>awp C nt (.range f ps x y) K st
  | .exit id,K,st=>K (.exit id) st
  | .ret,K,st=>K .ret st
theorem wj {C:CtxY} {nt:Fr}:∀ {c:ZaC} {K:Exit→St→Prop} {st:St},wpx C nt c K st→awp C nt c K st
  | .skip,K,st,h=>Kf h
  | .region false _ items ks,K,st,h=>XZ (yL C items _ st h)
  | .region true ord items ks,K,st,h=>by
    simp only [wpx,wpD] at h
    split at h
    · exact zg5 h
    · exact zg4 h
  | .seq x y,K,st,h=>by
    have h1:awp C nt x (yX (wpx C nt y K) K) st:=wj (c:=x) h
    refine zbh (jw (fun e st' hk => ?_) h1)
    cases e with
    | normal=>exact wj (c:=y) hk
    | _=>exact hk
  | .cond c x y,K,st,h=>by
    simp only [wpx,wpC] at h
    split at h
    · rename_i hb;exact ve true hb (fun _=>wj h) (fun h=>by cases h)
    · rename_i hb;exact ve false hb (fun h=>by cases h) (fun _=>wj h)
    · exact h.elim
  | .block id x,K,st,h=>VU (wj (c:=x) h)
  | .loop x,K,st,h=>h
  | .scope x,K,st,h=>VV h.1 (wj (c:=x) h.2)
  | .range f ps x y,K,st,h=>h
  | .exit id,K,st,h=>Kg h
  | .ret,K,st,h=>zbi h
section
variable {C:CtxY} {nt:Fr} {env:List (Nat×AV)} {heap:List (Nat×Zah)} {next:Nat} {dst:Option Nat} {K:St→Prop} {KE:Exit→St→Prop} {st:St}
@[simp] theorem zlV:wpx C nt .skip KE st=KE .normal st:=rfl
@[simp] theorem zj6 (o:List Nat) (items:List AItem) (ks:Option (List Nat)):wpx C nt (.region false o items ks) KE st=evl C items (Z4 ks KE) st:=rfl
@[simp] theorem zlW (o:List Nat) (items:List AItem) (ks:Option (List Nat)):wpx C nt (.region true o items ks) KE st=wpD C (X5 items) o items (Z4 ks KE) st:=rfl
@[simp] theorem zlX (o:List Nat) (items:List AItem):wpD C true o items K st=evr C K items st:=rfl
@[simp] theorem zlf (o:List Nat) (items:List AItem):wpD C false o items K st=evd C o K items 0 [] [] st:=rfl
@[simp] theorem zmH (x y:ZaC):wpx C nt (.seq x y) KE st=wpx C nt x (yX (wpx C nt y KE) KE) st:=rfl
@[simp] theorem zlY (c:Opd) (x y:ZaC):wpx C nt (.cond c x y) KE st=wpC (zd st.env c) (wpx C nt x KE) (wpx C nt y KE) st:=rfl
@[simp] theorem zlg (id:Nat) (x:ZaC):wpx C nt (.block id x) KE st=wpx C nt x (wh id KE) st:=rfl
@[simp] theorem zlZ (id:Nat):wpx C nt (.exit id) KE st=KE (.exit id) st:=rfl
@[simp] theorem zmI:wpx C nt .ret KE st=KE .ret st:=rfl
@[simp] theorem zl0 (x y:St→Prop):wpC (.imm (.bool true)) x y st=x st:=rfl
@[simp] theorem zlh (x y:St→Prop):wpC (.imm (.bool false)) x y st=y st:=rfl
@[simp] theorem zjX (n:St→Prop):yX n KE .normal st=n st:=rfl
@[simp] theorem zli (n:St→Prop) (id:Nat):yX n KE (.exit id) st=KE (.exit id) st:=rfl
@[simp] theorem zl1 (n:St→Prop):yX n KE .ret st=KE .ret st:=rfl
@[simp] theorem zg7 (id:Nat):wh id KE .normal st=KE .normal st:=rfl
@[simp] theorem zjY (id:Nat):wh id KE .ret st=KE .ret st:=rfl
@[simp] theorem ziq (id id':Nat):wh id KE (.exit id') st=if id'=id then KE .normal st else KE (.exit id') st:=rfl
@[simp] theorem zg8:Zs KE .normal st=KE .normal st:=rfl
@[simp] theorem zir (id:Nat):Zs KE (.exit id) st=KE (.exit id) st:=rfl
@[simp] theorem zjZ:Zs KE .ret st=KE .ret st:=rfl
@[simp] theorem zlj (ks:List Nat):Z4 (some ks) KE ⟨env,heap,next⟩=KE .normal ⟨qB ks env,heap,next⟩:=rfl
@[simp] theorem zlk:Z4 none KE st=KE .normal st:=rfl
@[simp] theorem zj0 (ks:List Nat):qB ks []=[]:=rfl
@[simp] theorem zis (ks:List Nat) (k:Nat) (v:AV) (r:List (Nat×AV)):qB ks ((k,v)::r)=bif ks.contains k then (k,v)::qB ks r else qB ks r:=by
  simp only [qB,List.filter_cons];cases ks.contains k<;>rfl
@[simp] theorem zmJ:evl C [] K st=K st:=rfl
@[simp] theorem zl2 (it:AItem) (r:List AItem):evl C (it::r) K st=QZ C it (evl C r K) st:=rfl
@[simp] theorem zll (op:AOp):QZ C ⟨dst,op,none⟩ K st=evOp C dst K st op:=rfl
@[simp] theorem zlm (op:AOp) (t:Nat) (want:Bool):QZ C ⟨dst,op,some (t,want)⟩ K st=QY C dst op K st want ((za st.env t).getD .top):=rfl
@[simp] theorem zj7 (op:AOp) (want:Bool):QY C dst op K st want .undef=K (st.after dst .undef []):=rfl
@[simp] theorem zln (op:AOp) (b:Bool):QY C dst op K st true (.imm (.bool b))=evG C dst op K st b:=by simp [QY]
@[simp] theorem zj8 (op:AOp) (b:Bool):QY C dst op K st false (.imm (.bool b))=evG C dst op K st (!b):=by cases b<;>rfl
@[simp] theorem zl3 (op:AOp):evG C dst op K st true=evOp C dst K st op:=rfl
@[simp] theorem zlo (op:AOp):evG C dst op K st false=K (st.after dst .undef []):=rfl
@[simp] theorem zj9 (r:AV) (ups:List (Nat×Zah)):zW dst K st (some (r,ups))=K (st.after dst r ups):=rfl
@[simp] theorem zka:zW dst K st none=False:=rfl
@[simp] theorem zlp (f:Opd) (args:List Opd):evOp C dst K ⟨env,heap,next⟩ (.call f args)=X6 C dst K ⟨env,heap,next⟩ (args.map (zd env)) (zd env f):=rfl
@[simp] theorem zj1 (args:List AV) (f:Nat) (first caps:List AV):X6 C dst K ⟨env,heap,next⟩ args (.func f first caps)=ACall C f (first++args++caps) heap next (Zt dst env K):=rfl
@[simp] theorem zit (d:Nat) (r:AV) (heap':List (Nat×Zah)) (next':Nat):Zt (some d) env K r heap' next'=K ⟨zo env d r,heap',next'+1⟩:=rfl
@[simp] theorem ziu (r:AV) (heap':List (Nat×Zah)) (next':Nat):Zt none env K r heap' next'=K ⟨env,heap',next'+1⟩:=rfl
@[simp] theorem zkb (d:Nat) (r:AV) (ups:List (Nat×Zah)):St.after ⟨env,heap,next⟩ (some d) r ups=⟨zo env d r,zF ups heap,next+1⟩:=rfl
@[simp] theorem zkc (r:AV) (ups:List (Nat×Zah)):St.after ⟨env,heap,next⟩ none r ups=⟨env,zF ups heap,next+1⟩:=rfl
@[simp] theorem ziv:zF [] heap=heap:=rfl
@[simp] theorem zin (k:Nat) (o:Zah) (r:List (Nat×Zah)):zF ((k,o)::r) heap=qn (zF r heap) k o:=rfl
@[simp] theorem zlq {α:Type} (i:Nat) (v:α):qn [] i v=[(i,v)]:=rfl
@[simp] theorem zkd {α:Type} (k i:Nat) (v u:α) (r:List (Nat×α)):qn ((k,v)::r) i u=if k=i then (i,u)::r else if k=999999 then (i,u)::(k,v)::r else (k,v)::qn r i u:=rfl
@[simp] theorem zlr {α:Type} (i:Nat):za ([]:List (Nat×α)) i=none:=rfl
@[simp] theorem zke {α:Type} (k i:Nat) (v:α) (r:List (Nat×α)):za ((k,v)::r) i=if k=i then some v else za r i:=rfl
@[simp] theorem zls {α:Type} (i:Nat) (v:α):zo [] i v=[(i,v)]:=rfl
@[simp] theorem zkf {α:Type} (k i:Nat) (v u:α) (r:List (Nat×α)):zo ((k,v)::r) i u=if k=i then (i,u)::r else (k,v)::zo r i u:=rfl
@[simp] theorem zmK (n:Nat):zd env (.t n)=(za env n).getD .top:=rfl
@[simp] theorem zmL (x:AV):zd env (.c x)=x:=rfl
@[simp] theorem zkg (i:Nat):jc i []=[]:=rfl
@[simp] theorem zj2 (i:Nat) (x:AV) (xs:List AV):jc i (x::xs)=(i,x)::jc (i+1) xs:=rfl
@[simp] theorem zl4 {α β:Type} (f:α→Option β):mapO f []=some []:=rfl
@[simp] theorem zlu {α β:Type} (f:α→Option β) (a:α) (r:List α):mapO f (a::r)=match f a with
    | some b=>match mapO f r with
      | some bs=>some (b::bs)
      | none=>none
    | none=>none:=rfl
def Q0 (KA:AV→List (Nat×Zah)→Nat→Prop) (heap:List (Nat×Zah)) (next:Nat):Option AV→Prop
  | some r=>KA r heap next
  | none=>False
def X7 (rs:List ARes) (KA:AV→List (Nat×Zah)→Nat→Prop):Exit→St→Prop
  | .ret,st | .normal,st=>Q0 KA st.heap st.next (jn rs st)
  | _,_=>False
theorem ACall.run {C:Ctx} {f:Nat} {F:AFun} (hF:qr C f=some F.erase) {args:List AV} {KA:AV→List (Nat×Zah)→Nat→Prop} (hn:args.length≤F.nt)
    (h:∀ B,wpx C.plain ⟨F.nt,B⟩ F.body (X7 F.results KA) {env:=jc 0 args,heap:=heap,next:=next}):ACall C f args heap next KA:=ACall.enter hF hn (fun B=>jw (fun e st hk=>by
      have key:∀ {o:Option AV},Q0 KA st.heap st.next o→∃ r,o=some r∧KA r st.heap st.next:=fun {o} ho=>by
        cases o with
        | none=>exact ho.elim
        | some r=>exact ⟨r,rfl,ho⟩
      cases e with
      | ret=>exact ⟨.inl rfl,key hk⟩
      | normal=>exact ⟨.inr rfl,key hk⟩
      | _=>exact hk.elim) (wj (h B)))
def Vd (d:Nat) (r:IV):AV→List (Nat×Zah)→Nat→Prop:=fun x heap _=>zC (za heap) d x=some r
@[simp] theorem zmM (d:Nat) (r:IV) (x:AV):Vd d r x heap next=(zC (za heap) d x=some r):=rfl
theorem APure.run {C:Ctx} {f:Nat} {F:AFun} (hF:qr C f=some F.erase) {args:List IV} {r:IV} (d:Nat) (hn:args.length≤F.nt)
    (h:∀ B,wpx C.plain ⟨F.nt,B⟩ F.body (X7 F.results (Vd d r)) {env:=jc 0 (args.map .imm),heap:=[],next:=0}):APure C f args r:=APure.of (d:=d) (ACall.run hF (by simpa using hn) h)
variable {KA:AV→List (Nat×Zah)→Nat→Prop}
@[simp] theorem zlv (rs:List ARes):X7 rs KA .ret ⟨env,heap,next⟩=Q0 KA heap next (jn rs ⟨env,heap,next⟩):=rfl
@[simp] theorem ziw (rs:List ARes):X7 rs KA .normal ⟨env,heap,next⟩=Q0 KA heap next (jn rs ⟨env,heap,next⟩):=rfl
@[simp] theorem zlw (r:AV):Q0 KA heap next (some r)=KA r heap next:=rfl
@[simp] theorem zlx:Q0 KA heap next none=False:=rfl
@[simp] theorem zly (r:ARes):jn [r] st=xT st r:=rfl
@[simp] theorem zlz:jn [] st=some (.tuple []):=rfl
@[simp] theorem zlA (r s:ARes) (l:List ARes):jn (r::s::l) st=match mapO (xT st) (r::s::l) with
    | some xs=>some (.tuple xs)
    | none=>none:=rfl
@[simp] theorem zkh (t:Nat):xT ⟨env,heap,next⟩ (.tmp t)=za env t:=rfl
@[simp] theorem zj3 (t n:Nat) (ag:Bool):xT ⟨env,heap,next⟩ (.cell t ag n)=match evalOp (.load ag n (.t t)) (zd env) (za heap) 0 with
    | some (r,_)=>some r
    | none=>none:=rfl
@[simp] theorem zl5 (x:Opd):evOp C dst K ⟨env,heap,next⟩ (.mov x)=zW dst K ⟨env,heap,next⟩ (evalOp (.mov x) (zd env) (za heap) next):=rfl
@[simp] theorem zlB (c a b:Opd):evOp C dst K ⟨env,heap,next⟩ (.pick c a b)=zW dst K ⟨env,heap,next⟩ (evalOp (.pick c a b) (zd env) (za heap) next):=rfl
@[simp] theorem zki (sz:Nat) (rows:List (List AV)):evOp C dst K ⟨env,heap,next⟩ (.alloc sz rows)=zW dst K ⟨env,heap,next⟩ (evalOp (.alloc sz rows) (zd env) (za heap) next):=rfl
@[simp] theorem zl6 (sz:Nat) (x:Opd):evOp C dst K ⟨env,heap,next⟩ (.box sz x)=zW dst K ⟨env,heap,next⟩ (evalOp (.box sz x) (zd env) (za heap) next):=rfl
@[simp] theorem zkj (zero:List AV) (parts:List (Nat×Nat×Opd)):evOp C dst K ⟨env,heap,next⟩ (.build zero parts)=zW dst K ⟨env,heap,next⟩ (evalOp (.build zero parts) (zd env) (za heap) next):=rfl
@[simp] theorem zj4 (sz:Nat) (zero:List AV) (len:Nat) (parts:List (Nat×Opd)):evOp C dst K ⟨env,heap,next⟩ (.bslice sz zero len parts)=zW dst K ⟨env,heap,next⟩ (evalOp (.bslice sz zero len parts) (zd env) (za heap) next):=rfl
@[simp] theorem zlC (agg:Bool) (n:Nat) (x:Opd):evOp C dst K ⟨env,heap,next⟩ (.load agg n x)=zW dst K ⟨env,heap,next⟩ (evalOp (.load agg n x) (zd env) (za heap) next):=rfl
@[simp] theorem zkk (n:Nat) (x v:Opd):evOp C dst K ⟨env,heap,next⟩ (.store n x v)=zW dst K ⟨env,heap,next⟩ (evalOp (.store n x v) (zd env) (za heap) next):=rfl
@[simp] theorem zl7 (off:Nat) (x:Opd):evOp C dst K ⟨env,heap,next⟩ (.fld off x)=zW dst K ⟨env,heap,next⟩ (evalOp (.fld off x) (zd env) (za heap) next):=rfl
@[simp] theorem zl8 (sz:Nat) (x i:Opd):evOp C dst K ⟨env,heap,next⟩ (.idx sz x i)=zW dst K ⟨env,heap,next⟩ (evalOp (.idx sz x i) (zd env) (za heap) next):=rfl
@[simp] theorem zlD (len sz:Nat) (x i:Opd):evOp C dst K ⟨env,heap,next⟩ (.idxa len sz x i)=zW dst K ⟨env,heap,next⟩ (evalOp (.idxa len sz x i) (zd env) (za heap) next):=rfl
@[simp] theorem zl9 (op:BinOp) (x y:Opd):evOp C dst K ⟨env,heap,next⟩ (.bin op x y)=zW dst K ⟨env,heap,next⟩ (evalOp (.bin op x y) (zd env) (za heap) next):=rfl
@[simp] theorem zma (neg:Bool) (x y:Opd):evOp C dst K ⟨env,heap,next⟩ (.eqb neg x y)=zW dst K ⟨env,heap,next⟩ (evalOp (.eqb neg x y) (zd env) (za heap) next):=rfl
@[simp] theorem zmb (neg:Bool) (ks:List Nat) (x y:Opd):evOp C dst K ⟨env,heap,next⟩ (.eqs neg ks x y)=zW dst K ⟨env,heap,next⟩ (evalOp (.eqs neg ks x y) (zd env) (za heap) next):=rfl
@[simp] theorem zkl (neg:Bool) (x y:Opd):evOp C dst K ⟨env,heap,next⟩ (.eqnil neg x y)=zW dst K ⟨env,heap,next⟩ (evalOp (.eqnil neg x y) (zd env) (za heap) next):=rfl
@[simp] theorem zmc (x:Opd):evOp C dst K ⟨env,heap,next⟩ (.not x)=zW dst K ⟨env,heap,next⟩ (evalOp (.not x) (zd env) (za heap) next):=rfl
@[simp] theorem zmd (x:Opd):evOp C dst K ⟨env,heap,next⟩ (.neg x)=zW dst K ⟨env,heap,next⟩ (evalOp (.neg x) (zd env) (za heap) next):=rfl
@[simp] theorem zlE (k:IntKind) (x:Opd):evOp C dst K ⟨env,heap,next⟩ (.conv k x)=zW dst K ⟨env,heap,next⟩ (evalOp (.conv k x) (zd env) (za heap) next):=rfl
@[simp] theorem zme (x:Opd):evOp C dst K ⟨env,heap,next⟩ (.len x)=zW dst K ⟨env,heap,next⟩ (evalOp (.len x) (zd env) (za heap) next):=rfl
@[simp] theorem zlF (x:Opd):evOp C dst K ⟨env,heap,next⟩ (.lens x)=zW dst K ⟨env,heap,next⟩ (evalOp (.lens x) (zd env) (za heap) next):=rfl
@[simp] theorem zlG (x:Opd):evOp C dst K ⟨env,heap,next⟩ (.lenm x)=zW dst K ⟨env,heap,next⟩ (evalOp (.lenm x) (zd env) (za heap) next):=rfl
@[simp] theorem zmN (max:Bool) (x y:Opd):evOp C dst K ⟨env,heap,next⟩ (.mm max x y)=zW dst K ⟨env,heap,next⟩ (evalOp (.mm max x y) (zd env) (za heap) next):=rfl
@[simp] theorem zmf (sz by_:Nat) (s x:Opd):evOp C dst K ⟨env,heap,next⟩ (.app sz by_ s x)=zW dst K ⟨env,heap,next⟩ (evalOp (.app sz by_ s x) (zd env) (za heap) next):=rfl
@[simp] theorem zmg (x:Opd) (i:Nat):evOp C dst K ⟨env,heap,next⟩ (.ext x i)=zW dst K ⟨env,heap,next⟩ (evalOp (.ext x i) (zd env) (za heap) next):=rfl
@[simp] theorem zmh (f:Nat) (first caps:List Opd):evOp C dst K ⟨env,heap,next⟩ (.mkf f first caps)=zW dst K ⟨env,heap,next⟩ (evalOp (.mkf f first caps) (zd env) (za heap) next):=rfl
@[simp] theorem zkm  : evOp C dst K ⟨env,heap,next⟩ (.mkmap)=zW dst K ⟨env,heap,next⟩ (evalOp (.mkmap) (zd env) (za heap) next):=rfl
@[simp] theorem zlH (str:Bool) (zero:AV) (ok:Bool) (m k:Opd):evOp C dst K ⟨env,heap,next⟩ (.look str zero ok m k)=zW dst K ⟨env,heap,next⟩ (evalOp (.look str zero ok m k) (zd env) (za heap) next):=rfl
@[simp] theorem zmi (str:Bool) (m k v:Opd):evOp C dst K ⟨env,heap,next⟩ (.upd str m k v)=zW dst K ⟨env,heap,next⟩ (evalOp (.upd str m k v) (zd env) (za heap) next):=rfl
@[simp] theorem zmj (sz by_:Nat) (zero:List AV) (n:Opd):evOp C dst K ⟨env,heap,next⟩ (.mks sz by_ zero n)=zW dst K ⟨env,heap,next⟩ (evalOp (.mks sz by_ zero n) (zd env) (za heap) next):=rfl
@[simp] theorem zmk (sz:Nat) (x:Opd) (lo hi:Option Opd):evOp C dst K ⟨env,heap,next⟩ (.slc sz x lo hi)=zW dst K ⟨env,heap,next⟩ (evalOp (.slc sz x lo hi) (zd env) (za heap) next):=rfl
@[simp] theorem zml (x:Opd):evOp C dst K ⟨env,heap,next⟩ (.nck x)=zW dst K ⟨env,heap,next⟩ (evalOp (.nck x) (zd env) (za heap) next):=rfl
@[simp] theorem zlI (sz:Nat) (d x:Opd):evOp C dst K ⟨env,heap,next⟩ (.copy sz d x)=zW dst K ⟨env,heap,next⟩ (evalOp (.copy sz d x) (zd env) (za heap) next):=rfl
@[simp] theorem zmm (len sz:Nat) (x i:Opd):evOp C dst K ⟨env,heap,next⟩ (.ixa len sz x i)=zW dst K ⟨env,heap,next⟩ (evalOp (.ixa len sz x i) (zd env) (za heap) next):=rfl
end
section
variable {C:CtxY} {nt:Fr} {env:List (Nat×AV)} {heap:List (Nat×Zah)} {next:Nat} {dst:Option Nat} {K:St→Prop} {KD:List Nat→AV→List (Nat×Zah)→Prop} {st:St}
@[simp] theorem zmO (ord:List Nat) (j:Nat) (W R:List (Nat×Nat)):evd C ord K [] j W R st=K st:=rfl
@[simp] theorem zff (ord:List Nat) (it:AItem) (r:List AItem) (j:Nat) (W R:List (Nat×Nat)):evd C ord K (it::r) j W R st=dIt C it (dNext ord j W R it.dst st (evd C ord K r)) st:=rfl
@[simp] theorem zmP:evr C K [] st=K st:=rfl
@[simp] theorem zmn (it:AItem) (r:List AItem):evr C K (it::r) st=dIt C it (YJ it.dst st (evr C K r)) st:=rfl
@[simp] theorem zfg (op:AOp):dIt C ⟨dst,op,none⟩ KD st=dOp C KD st op:=rfl
@[simp] theorem zmo (op:AOp) (t:Nat) (want:Bool):dIt C ⟨dst,op,some (t,want)⟩ KD st=dGV C op KD st want ((za st.env t).getD .top):=rfl
@[simp] theorem zlJ (op:AOp) (want:Bool):dGV C op KD st want .undef=KD [] .undef []:=rfl
@[simp] theorem zmp (op:AOp) (b:Bool):dGV C op KD st true (.imm (.bool b))=dG C op KD st b:=by simp [dGV]
@[simp] theorem zlK (op:AOp) (b:Bool):dGV C op KD st false (.imm (.bool b))=dG C op KD st (!b):=by cases b<;>rfl
@[simp] theorem zmQ (op:AOp):dG C op KD st true=dOp C KD st op:=rfl
@[simp] theorem zmq (op:AOp):dG C op KD st false=KD [] .undef []:=rfl
@[simp] theorem zlL (rd:List Nat) (r:AV) (ups:List (Nat×Zah)):qj KD rd (some (r,ups))=KD rd r ups:=rfl
@[simp] theorem zlM (rd:List Nat):qj KD rd none=False:=rfl
@[simp] theorem zmr (ord:List Nat) (j:Nat) (W R:List (Nat×Nat)) (nx:Nat→List (Nat×Nat)→List (Nat×Nat)→St→Prop) (rd:List Nat) (r:AV) (ups:List (Nat×Zah)) :
    dNext ord j W R dst st nx rd r ups=(wC ord j W R (z1 ups) rd=true∧nx (j+1) (jo j (z1 ups) W) (jo j rd R) (st.after dst r ups)):=rfl
@[simp] theorem zlN (nx:St→Prop) (rd:List Nat) (r:AV):YJ dst st nx rd r []=nx (st.after dst r []):=by simp [YJ]
@[simp] theorem zms (f:Opd) (args:List Opd):dOp C KD ⟨env,heap,next⟩ (.call f args)=YK C KD heap (args.map (zd env)) (zd env f):=rfl
@[simp] theorem zkn (args:List AV) (f:Nat) (first caps:List AV):YK C KD heap args (.func f first caps)=DCall C f (first++args++caps) heap KD:=rfl
@[simp] theorem zmR (x:Opd):dOp C KD ⟨env,heap,next⟩ (.mov x)=qj KD (zk (.mov x) (zd env)) (evalOp (.mov x) (zd env) (za heap) next):=rfl
@[simp] theorem zmt (c a b:Opd):dOp C KD ⟨env,heap,next⟩ (.pick c a b)=qj KD (zk (.pick c a b) (zd env)) (evalOp (.pick c a b) (zd env) (za heap) next):=rfl
@[simp] theorem zlO (sz:Nat) (rows:List (List AV)):dOp C KD ⟨env,heap,next⟩ (.alloc sz rows)=qj KD (zk (.alloc sz rows) (zd env)) (evalOp (.alloc sz rows) (zd env) (za heap) next):=rfl
@[simp] theorem zmS (sz:Nat) (x:Opd):dOp C KD ⟨env,heap,next⟩ (.box sz x)=qj KD (zk (.box sz x) (zd env)) (evalOp (.box sz x) (zd env) (za heap) next):=rfl
@[simp] theorem zlP (zero:List AV) (parts:List (Nat×Nat×Opd)):dOp C KD ⟨env,heap,next⟩ (.build zero parts)=qj KD (zk (.build zero parts) (zd env)) (evalOp (.build zero parts) (zd env) (za heap) next):=rfl
@[simp] theorem zko (sz:Nat) (zero:List AV) (len:Nat) (parts:List (Nat×Opd)):dOp C KD ⟨env,heap,next⟩ (.bslice sz zero len parts)=qj KD (zk (.bslice sz zero len parts) (zd env)) (evalOp (.bslice sz zero len parts) (zd env) (za heap) next):=rfl
@[simp] theorem zmu (agg:Bool) (n:Nat) (x:Opd):dOp C KD ⟨env,heap,next⟩ (.load agg n x)=qj KD (zk (.load agg n x) (zd env)) (evalOp (.load agg n x) (zd env) (za heap) next):=rfl
@[simp] theorem zlQ (n:Nat) (x v:Opd):dOp C KD ⟨env,heap,next⟩ (.store n x v)=qj KD (zk (.store n x v) (zd env)) (evalOp (.store n x v) (zd env) (za heap) next):=rfl
@[simp] theorem zmT (off:Nat) (x:Opd):dOp C KD ⟨env,heap,next⟩ (.fld off x)=qj KD (zk (.fld off x) (zd env)) (evalOp (.fld off x) (zd env) (za heap) next):=rfl
@[simp] theorem zmU (sz:Nat) (x i:Opd):dOp C KD ⟨env,heap,next⟩ (.idx sz x i)=qj KD (zk (.idx sz x i) (zd env)) (evalOp (.idx sz x i) (zd env) (za heap) next):=rfl
@[simp] theorem zmv (len sz:Nat) (x i:Opd):dOp C KD ⟨env,heap,next⟩ (.idxa len sz x i)=qj KD (zk (.idxa len sz x i) (zd env)) (evalOp (.idxa len sz x i) (zd env) (za heap) next):=rfl
@[simp] theorem zmV (op:BinOp) (x y:Opd):dOp C KD ⟨env,heap,next⟩ (.bin op x y)=qj KD (zk (.bin op x y) (zd env)) (evalOp (.bin op x y) (zd env) (za heap) next):=rfl
@[simp] theorem zmW (neg:Bool) (x y:Opd):dOp C KD ⟨env,heap,next⟩ (.eqb neg x y)=qj KD (zk (.eqb neg x y) (zd env)) (evalOp (.eqb neg x y) (zd env) (za heap) next):=rfl
@[simp] theorem zmX (neg:Bool) (ks:List Nat) (x y:Opd):dOp C KD ⟨env,heap,next⟩ (.eqs neg ks x y)=qj KD (zk (.eqs neg ks x y) (zd env)) (evalOp (.eqs neg ks x y) (zd env) (za heap) next):=rfl
@[simp] theorem zlR (neg:Bool) (x y:Opd):dOp C KD ⟨env,heap,next⟩ (.eqnil neg x y)=qj KD (zk (.eqnil neg x y) (zd env)) (evalOp (.eqnil neg x y) (zd env) (za heap) next):=rfl
@[simp] theorem zmY (x:Opd):dOp C KD ⟨env,heap,next⟩ (.not x)=qj KD (zk (.not x) (zd env)) (evalOp (.not x) (zd env) (za heap) next):=rfl
@[simp] theorem zmZ (x:Opd):dOp C KD ⟨env,heap,next⟩ (.neg x)=qj KD (zk (.neg x) (zd env)) (evalOp (.neg x) (zd env) (za heap) next):=rfl
@[simp] theorem zmw (k:IntKind) (x:Opd):dOp C KD ⟨env,heap,next⟩ (.conv k x)=qj KD (zk (.conv k x) (zd env)) (evalOp (.conv k x) (zd env) (za heap) next):=rfl
@[simp] theorem zm0 (x:Opd):dOp C KD ⟨env,heap,next⟩ (.len x)=qj KD (zk (.len x) (zd env)) (evalOp (.len x) (zd env) (za heap) next):=rfl
@[simp] theorem zmx (x:Opd):dOp C KD ⟨env,heap,next⟩ (.lens x)=qj KD (zk (.lens x) (zd env)) (evalOp (.lens x) (zd env) (za heap) next):=rfl
@[simp] theorem zmy (x:Opd):dOp C KD ⟨env,heap,next⟩ (.lenm x)=qj KD (zk (.lenm x) (zd env)) (evalOp (.lenm x) (zd env) (za heap) next):=rfl
@[simp] theorem zm9 (max:Bool) (x y:Opd):dOp C KD ⟨env,heap,next⟩ (.mm max x y)=qj KD (zk (.mm max x y) (zd env)) (evalOp (.mm max x y) (zd env) (za heap) next):=rfl
@[simp] theorem zm1 (sz by_:Nat) (s x:Opd):dOp C KD ⟨env,heap,next⟩ (.app sz by_ s x)=qj KD (zk (.app sz by_ s x) (zd env)) (evalOp (.app sz by_ s x) (zd env) (za heap) next):=rfl
@[simp] theorem zm2 (x:Opd) (i:Nat):dOp C KD ⟨env,heap,next⟩ (.ext x i)=qj KD (zk (.ext x i) (zd env)) (evalOp (.ext x i) (zd env) (za heap) next):=rfl
@[simp] theorem zm3 (f:Nat) (first caps:List Opd):dOp C KD ⟨env,heap,next⟩ (.mkf f first caps)=qj KD (zk (.mkf f first caps) (zd env)) (evalOp (.mkf f first caps) (zd env) (za heap) next):=rfl
@[simp] theorem zlS  : dOp C KD ⟨env,heap,next⟩ (.mkmap)=qj KD (zk (.mkmap) (zd env)) (evalOp (.mkmap) (zd env) (za heap) next):=rfl
@[simp] theorem zmz (str:Bool) (zero:AV) (ok:Bool) (m k:Opd):dOp C KD ⟨env,heap,next⟩ (.look str zero ok m k)=qj KD (zk (.look str zero ok m k) (zd env)) (evalOp (.look str zero ok m k) (zd env) (za heap) next):=rfl
@[simp] theorem zm4 (str:Bool) (m k v:Opd):dOp C KD ⟨env,heap,next⟩ (.upd str m k v)=qj KD (zk (.upd str m k v) (zd env)) (evalOp (.upd str m k v) (zd env) (za heap) next):=rfl
@[simp] theorem zm5 (sz by_:Nat) (zero:List AV) (n:Opd):dOp C KD ⟨env,heap,next⟩ (.mks sz by_ zero n)=qj KD (zk (.mks sz by_ zero n) (zd env)) (evalOp (.mks sz by_ zero n) (zd env) (za heap) next):=rfl
@[simp] theorem zm6 (sz:Nat) (x:Opd) (lo hi:Option Opd):dOp C KD ⟨env,heap,next⟩ (.slc sz x lo hi)=qj KD (zk (.slc sz x lo hi) (zd env)) (evalOp (.slc sz x lo hi) (zd env) (za heap) next):=rfl
@[simp] theorem zm7 (x:Opd):dOp C KD ⟨env,heap,next⟩ (.nck x)=qj KD (zk (.nck x) (zd env)) (evalOp (.nck x) (zd env) (za heap) next):=rfl
@[simp] theorem zmA (sz:Nat) (d x:Opd):dOp C KD ⟨env,heap,next⟩ (.copy sz d x)=qj KD (zk (.copy sz d x) (zd env)) (evalOp (.copy sz d x) (zd env) (za heap) next):=rfl
@[simp] theorem zm8 (len sz:Nat) (x i:Opd):dOp C KD ⟨env,heap,next⟩ (.ixa len sz x i)=qj KD (zk (.ixa len sz x i) (zd env)) (evalOp (.ixa len sz x i) (zd env) (za heap) next):=rfl
end
end
section
section
variable {C:CtxY} {nt:Fr} {x:ZaC} {K:Exit→St→Prop} {st:St}
end
@[simp] theorem zgH {α:Type} {p:α→Prop}:(∀ x∈([]:List α),p x)=True:=by simp
theorem zX {x:Int} (h1 : -9223372036854775808≤x) (h2:x < 9223372036854775808):IntKind.i64.wrap x=x:=by
  simp [IntKind.wrap,IntKind.bits,IntKind.signed,Int.bmod_def]
  omega
theorem Z5 {x:Int} (h1:0≤x) (h2:x < 18446744073709551616):IntKind.u64.wrap x=x:=by
  simp [IntKind.wrap,IntKind.bits,IntKind.signed]
  omega
end
section
def X8 {α:Type}:List (Nat×α)→List (Nat×α)→List (Nat×α)
  | [],l=>l
  | (k,v)::r,l=>X8 r (zo l k v)
@[simp] theorem zkp {α:Type} (l:List (Nat×α)):X8 [] l=l:=rfl
@[simp] theorem zj5 {α:Type} (k:Nat) (v:α) (r l:List (Nat×α)):X8 ((k,v)::r) l=X8 r (zo l k v):=rfl
section
variable {C:CtxY} {nt:Fr} {x:ZaC} {K:Exit→St→Prop}
end
end
section
theorem Jy {α β:Type} {x:Option α} {f:α→Option β} {r:β} (h:x.bind f=some r):∃ a,x=some a∧f a=some r:=Option.bind_eq_some_iff.1 h
def ze {α:Type} (l:List α) (n:Int):Option α:=if 0≤n then l[n.toNat]? else none
theorem zdQ {α:Type} {l:List α} {n:Int} {e:α} (h:ze l n=some e):0≤n∧l[n.toNat]?=some e∧n.toNat < l.length∧n < l.length∧∃ h:n.toNat < l.length,l[n.toNat]=e:=by
  unfold ze at h;split at h
  · obtain ⟨h1,h2⟩:=List.getElem?_eq_some_iff.1 h
    exact ⟨‹_›,h,h1,by omega,h1,h2⟩
  · cases h
theorem zg9 {C:CtxY} {nt:Fr} {o:List Nat} {items:List AItem} {ks:Option (List Nat)} {K:Exit→St→Prop} {st:St} (h:evl C items (Z4 ks K) st):awp C nt (.region false o items ks) K st:=
  XZ (yL C items _ st h)
theorem zha {C:CtxY} {nt:Fr} {o:List Nat} {items:List AItem} {ks:Option (List Nat)} {K:Exit→St→Prop} {st:St} (h:wpD C (X5 items) o items (Z4 ks K) st):awp C nt (.region true o items ks) K st:=
  wj h
def forFrom {σ ρ:Type} (f:Nat→σ→Option (σ ⊕ ρ)):Nat→Nat→σ→Option (σ ⊕ ρ)
  | _,0,s=>some (.inl s)
  | i,k+1,s=>match f i s with
    | none=>none
    | some (.inr r)=>some (.inr r)
    | some (.inl s')=>forFrom f (i+1) k s'
def forR {σ ρ:Type} (n:Int) (f:Nat→σ→Option (σ ⊕ ρ)) (s:σ):Option (σ ⊕ ρ):=bif Nat.blt n.toNat 4611686018427387904 then forFrom f 0 n.toNat s else none
theorem vi {σ ρ:Type} {n:Int} {f:Nat→σ→Option (σ ⊕ ρ)} {s:σ} (hn:n < 4611686018427387904):forR n f s=forFrom f 0 n.toNat s:=by
  have:Nat.blt n.toNat 4611686018427387904=true:=by simp only [Nat.blt_eq];omega
  unfold forR;rw [this];rfl
theorem VY {σ ρ:Type} {n:Int} {f:Nat→σ→Option (σ ⊕ ρ)} {s:σ} {o:σ ⊕ ρ} (h:forR n f s=some o):n < 4611686018427387904∧forFrom f 0 n.toNat s=some o:=by
  unfold forR at h
  cases hb:Nat.blt n.toNat 4611686018427387904 with
  | true=>rw [hb] at h;simp only [Nat.blt_eq] at hb;exact ⟨by omega,h⟩
  | false=>rw [hb] at h;cases h
def YL {σ ρ:Type} (W:σ→St) (K:Exit→St→Prop) (out:σ ⊕ ρ) (o:σ ⊕ ρ):Exit→St→Prop
  | .normal,st=>∃ s',o=.inl s'∧Weak st (W s')
  | e,st=>∃ y,o=.inr y∧(out=.inr y→K e st)
theorem zfh {C:CtxY} {nt:Fr} {x:ZaC} {K:Exit→St→Prop} {st:St} {σ ρ:Type} {n:Int} {f:Nat→σ→Option (σ ⊕ ρ)} {s0:σ} {out:σ ⊕ ρ} (hl:forR n f s0=some out)
    (E:Nat→σ→List (Nat×AV)) (H:Nat→σ→List (Nat×Zah)) (h0:Weak st ⟨E 0 s0,H 0 s0,st.next⟩)
    (body:∀ (i:Nat) (s:σ) (o:σ ⊕ ρ),(i:Int) < n→IntKind.i64.wrap ((i:Int)+1)=(i:Int)+1→f i s=some o→awp C nt x (YL (fun s=>⟨E (i+1) s,H (i+1) s,st.next⟩) K out o) ⟨E i s,H i s,st.next⟩)
    (last:∀ (m:Nat) (s:σ),¬ (m:Int) < n→out=.inl s→awp C nt x (yX (fun _=>False) K) ⟨E m s,H m s,st.next⟩):awp C nt (.loop x) K st:=by
  obtain ⟨hn,hl⟩:=VY hl
  refine Ki (ι:={p:Nat×σ // p.1≤n.toNat∧forFrom f p.1 (n.toNat - p.1) p.2=some out}) (fun p=>⟨E p.1.1 p.1.2,H p.1.1 p.1.2,st.next⟩) (fun p=>n.toNat - p.1.1) ⟨(0,s0),Nat.zero_le _,hl⟩ (fun _=>Nat.le_refl _) h0 (Nat.le_refl _) ?_
  rintro ⟨⟨i,s⟩,hi,hf⟩
  simp only at hi hf
  rcases Nat.lt_or_ge i n.toNat with h | h
  · obtain ⟨k,hk⟩:∃ k,n.toNat - i=k+1:=⟨n.toNat - i - 1,by omega⟩
    rw [hk] at hf
    simp only [forFrom] at hf
    split at hf
    · cases hf
    · rename_i r hr
      cases hf
      refine jw ?_ (body i s _ (by omega) (zX (by omega) (by omega)) hr)
      intro e st' hK
      cases e with
      | normal=>obtain ⟨s',h1,_⟩:=hK;cases h1
      | _=>obtain ⟨y,h1,h2⟩:=hK;cases h1;exact h2 rfl
    · rename_i s' hr
      refine jw ?_ (body i s _ (by omega) (zX (by omega) (by omega)) hr)
      intro e st' hK
      cases e with
      | normal=>
        obtain ⟨s'',h1,h2⟩:=hK
        cases h1
        exact ⟨⟨(i+1,s'),h,by simp only;rw [show n.toNat - (i+1)=k by omega];exact hf⟩,by simp only;omega,h2⟩
      | _=>obtain ⟨y,h1,h2⟩:=hK;cases h1
  · obtain rfl:i=n.toNat:=by omega
    simp only [Nat.sub_self,forFrom,Option.some.injEq] at hf
    refine jw ?_ (last n.toNat s (by omega) hf.symm)
    intro e st' hK
    cases e with
    | normal=>exact hK.elim
    | _=>exact hK
def iterN {σ ρ:Type} (f:σ→Option (σ ⊕ ρ)):Nat→σ→Option ρ
  | 0,_=>none
  | k+1,s=>match f s with
    | none=>none
    | some (.inr r)=>some r
    | some (.inl s')=>iterN f k s'
theorem Z6 {σ ρ:Type} {f:σ→Option (σ ⊕ ρ)}:∀ {k:Nat} {s:σ} {r:ρ},iterN f k s=some r→∀ {k':Nat},k≤k'→iterN f k' s=some r
  | 0,_,_,h,_,_=>by cases h
  | k+1,s,r,h,k',hk=>by
    obtain ⟨m,rfl⟩:∃ m,k'=m+1:=⟨k' - 1,by omega⟩
    simp only [iterN] at h ⊢
    split at h
    · cases h
    · exact h
    · exact Z6 h (by omega)
open Classical in
noncomputable def iter {σ ρ:Type} (f:σ→Option (σ ⊕ ρ)) (s:σ):Option ρ:=if h:∃ r,∃ k,iterN f k s=some r then some h.choose else none
theorem yh {σ ρ:Type} {f:σ→Option (σ ⊕ ρ)} {s:σ} {r:ρ}:iter f s=some r↔∃ k,iterN f k s=some r:=by
  unfold iter
  split
  · rename_i h
    obtain ⟨k,hk⟩:=h.choose_spec
    simp only [Option.some.injEq]
    constructor
    · intro e;exact ⟨k,by rw [←e];exact hk⟩
    · rintro ⟨k',hk'⟩
      have h1:=Z6 hk (Nat.le_max_left k k')
      have h2:=Z6 hk' (Nat.le_max_right k k')
      rw [h1] at h2;exact Option.some.inj h2
  · rename_i h
    constructor
    · intro e;cases e
    · rintro ⟨k,hk⟩;exact absurd ⟨r,k,hk⟩ h
theorem zhb {σ ρ:Type} (f:σ→Option (σ ⊕ ρ)) (s:σ):iter f s=match f s with
    | none=>none
    | some (.inr r)=>some r
    | some (.inl s')=>iter f s':=by
  apply Option.ext
  intro r
  rw [yh]
  constructor
  · rintro ⟨k,hk⟩
    cases k with
    | zero=>cases hk
    | succ k=>
      simp only [iterN] at hk
      split at hk
      · cases hk
      · exact hk
      · exact yh.2 ⟨k,hk⟩
  · intro h
    split at h
    · cases h
    · rename_i e;exact ⟨1,by simp only [iterN,e];exact h⟩
    · rename_i e
      obtain ⟨k,hk⟩:=yh.1 h
      exact ⟨k+1,by simp only [iterN,e];exact hk⟩
theorem zfi {C:CtxY} {nt:Fr} {x:ZaC} {K:Exit→St→Prop} {st:St} {σ ρ:Type} {f:σ→Option (σ ⊕ ρ)} {s0:σ} {out:ρ} (hl:iter f s0=some out)
    (E:σ→List (Nat×AV)) (H:σ→List (Nat×Zah)) (h0:Weak st ⟨E s0,H s0,st.next⟩)
    (body:∀ (s:σ) (o:σ ⊕ ρ),f s=some o→awp C nt x (YL (fun s=>⟨E s,H s,st.next⟩) K (.inr out) o) ⟨E s,H s,st.next⟩):awp C nt (.loop x) K st:=by
  obtain ⟨k,hk⟩:=yh.1 hl
  refine Ki (ι:={p:Nat×σ // iterN f p.1 p.2=some out}) (fun p=>⟨E p.1.2,H p.1.2,st.next⟩) (fun p=>p.1.1) ⟨(k,s0),hk⟩ (fun _=>Nat.le_refl _) h0 (Nat.le_refl _) ?_
  rintro ⟨⟨i,s⟩,hf⟩
  simp only at hf
  cases i with
  | zero=>cases hf
  | succ i=>
    simp only [iterN] at hf
    split at hf
    · cases hf
    · rename_i r hr
      cases hf
      refine jw ?_ (body s _ hr)
      intro e st' hK
      cases e with
      | normal=>obtain ⟨s',h1,_⟩:=hK;cases h1
      | _=>obtain ⟨y,h1,h2⟩:=hK;cases h1;exact h2 rfl
    · rename_i s' hr
      refine jw ?_ (body s _ hr)
      intro e st' hK
      cases e with
      | normal=>obtain ⟨s'',h1,h2⟩:=hK;cases h1;exact ⟨⟨(i,s'),hf⟩,by simp only;omega,h2⟩
      | _=>obtain ⟨y,h1,h2⟩:=hK;cases h1
theorem APure.start {C:Ctx} {f:Nat} {F:AFun} (hF:qr C f=some F.erase) {args:List IV} {r:IV} (d:Nat) (hn:args.length≤F.nt)
    (h:∀ B,awp C.plain ⟨F.nt,B⟩ F.body (X7 F.results (Vd d r)) {env:=jc 0 (args.map .imm),heap:=[],next:=0}):APure C f args r:=APure.of (d:=d) (ACall.enter hF (by simpa using hn) (fun B=>jw (fun e st hk=>by
      have key:∀ {o:Option AV},Q0 (Vd d r) st.heap st.next o→∃ x,o=some x∧Vd d r x st.heap st.next:=fun {o} ho=>by
        cases o with
        | none=>exact ho.elim
        | some x=>exact ⟨x,rfl,ho⟩
      cases e with
      | ret=>exact ⟨.inl rfl,key hk⟩
      | normal=>exact ⟨.inr rfl,key hk⟩
      | _=>exact hk.elim) (h B)))
end
section
def zb (n:Int):List IV:=[.int .i64 n]
def Ve (k:IntKind) (n:Int):List IV:=[.int k n]
def zg (b:Bool):List IV:=[.bool b]
def zmB (s:ByteArray):List IV:=[.str s]
def qK {α:Type} (f:α→List IV) (l:List α):List IV:=[.slice (l.map f)]
def zm (r:List IV):List AV:=r.map .imm
abbrev vI (n:Int):AV:=.imm (.int .i64 n)
abbrev vB (b:Bool):AV:=.imm (.bool b)
def yx {α:Type} (l:List α) (a b:Int):Option (List α):=if 0≤a∧a≤b∧b≤(l.length:Int) then some ((l.take b.toNat).drop a.toNat) else none
theorem zdR {α:Type} {l:List α} {a b:Int} {e:List α} (h:yx l a b=some e):0≤a∧a≤b∧b≤(l.length:Int)∧(l.take b.toNat).drop a.toNat=e:=by
  unfold yx at h;split at h
  · rename_i hh;exact ⟨hh.1,hh.2.1,hh.2.2,Option.some.inj h⟩
  · cases h
def wb (k:IntKind) (a b:Int):Option Int:=if b=0 then none else some (a.tmod b)
theorem zdS {k:IntKind} {a b e:Int} (h:wb k a b=some e):¬ b=0∧a.tmod b=e:=by
  unfold wb at h;split at h
  · cases h
  · exact ⟨‹_›,Option.some.inj h⟩
attribute [simp] bne evalOp cellsOf vO wd X5 zC xo qY we jF kD xP qg Zq xv jO wC jo z1 zk z6 qN bef Nat.testBit jB zO xn zG zK
attribute [simp] zb Ve zg zmB qK zm
end
section
def je (φ:Nat→Nat):AV→AV
  | .Zav i rows=>.Zav (φ i) rows
  | .ptr i r o=>.ptr (φ i) r o
  | .Zam i o l=>.Zam (φ i) o l
  | .map i=>.map (φ i)
  | .yld l i=>.yld l (φ i)
  | x=>x
def Zg (φ:Nat→Nat):AV→AV
  | .func f a c=>.func f (a.map (je φ)) (c.map (je φ))
  | .agg cs=>.agg (cs.map (je φ))
  | .tuple cs=>.tuple (cs.map (je φ))
  | x=>je φ x
def vj (φ:Nat→Nat):AV→AV
  | .tuple cs=>.tuple (cs.map (Zg φ))
  | x=>Zg φ x
def vV (φ:Nat→Nat) (row:List AV):List AV:=row.map (vj φ)
def zcn (φ:Nat→Nat) (e:IV×AV):IV×AV:=(e.1,vj φ e.2)
def zV (φ:Nat→Nat):Zah→Zah
  | .rows sz rows=>.rows sz (rows.map (vV φ))
  | .tip sz l=>.tip sz l
  | .map es=>.map (es.map (zcn φ))
  | .dead=>.dead
  | .lp l R s pe=>.lp l R s pe
def rnH (φ:Nat→Nat):List (Nat×Zah)→List (Nat×Zah)
  | []=>[]
  | (k,o)::r=>(φ k,zV φ o)::rnH φ r
def rnL (φ:Nat→Nat) (l:List AV):List AV:=l.map (vj φ)
def zfj (C:Ctx) (f:Nat) (args:List AV) (heap:List (Nat×Zah)) (next:Nat) (r:AV) (heap':List (Nat×Zah)) (next':Nat):Prop:=
  ACall C f args heap next fun x h n=>x=r∧h=heap'∧n=next'
section
variable {C:Ctx} {g g':Gh} {h h' h0:Nat→Option Zah} {N N' N0:Nat→Prop} {w w':World} {φ:Nat→Nat}
structure Ren (φ:Nat→Nat) (N0:Nat→Prop) (g0:Gh) (h0:Nat→Option Zah) (g:Gh) (h:Nat→Option Zah):Prop where
  rho:∀ i,N0 i→g0.ρ i=g.ρ (φ i)
  zed:g0.Z=g.Z
theorem yi {g0:Gh} {m:Nat} (hr:∀ i,i < m→g0.ρ i=g.ρ (φ i)) (hz:g0.Z=g.Z) (hh:∀ i o,h0 i=some o→h (φ i)=some (zV φ o)) {x:AV} {v:Value} (hb:zG m x=true) (hv:RV C g h N w (je φ x) v):RV C g0 h0 (· < m) w x v:=by
  cases x with
  | top=>exact .top v
  | undef=>simp only [je] at hv;cases hv;exact .undef
  | imm y=>simp only [je] at hv;cases hv with | imm _ _ hr'=>exact .imm _ _ (by rw [hz];exact hr')
  | nil=>simp only [je] at hv;cases hv;exact .nil
  | nnil=>simp only [je] at hv;cases hv with | nnil a cap=>exact .nnil a cap
  | yld l id=>
    simp only [je] at hv
    have hid:id < m:=by simpa [zG] using hb
    cases hv with
    | yld _ _ _ hp=>exact .yld l id hid fun R s pe h2=>by rw [hr id hid];exact hp R s pe (by rw [hh id _ h2];rfl)
  | Zav id rows=>
    simp only [je] at hv
    have hid:id < m:=by simpa [zG] using hb
    cases hv with
    | Zav _ _ _ hr' _ ht=>
      refine .Zav id rows v (by rw [hz];exact hr') hid fun sz len h1 => ?_
      obtain ⟨a1,a2,a3⟩:=ht sz len (by rw [hh id _ h1];rfl)
      refine ⟨a1,a2,fun e => ?_⟩
      rcases a3 e with ⟨b1,b2⟩ | ⟨b,cap,c,e',b1,b2,b3,b4⟩
      · exact .inl ⟨by rw [hr id hid];exact b1,b2⟩
      · exact .inr ⟨b,cap,c,e',by rw [hr id hid];exact b1,b2,b3,b4⟩
  | eptr cells=>
    simp only [je] at hv
    cases hv with
    | eptr _ b off cv hz' hc hr'=>exact .eptr cells b off cv (by rw [hz];exact hz') hc (by rw [hz];exact hr')
  | ptr id row off=>
    simp only [je] at hv
    have hid:id < m:=by simpa [zG] using hb
    cases hv with
    | ptr _ _ _ _ _ h1 hp=>
      refine .ptr id row off v hid h1 fun sz rows h2 => ?_
      obtain ⟨b,b1,b2⟩:=hp sz _ (by rw [hh id _ h2];rfl)
      exact ⟨b,by rw [hr id hid];exact b1,b2⟩
  | Zam id off len=>
    simp only [je] at hv
    have hid:id < m:=by simpa [zG] using hb
    cases hv with
    | Zam _ _ _ _ _ h1 hp=>
      refine .Zam id off len v hid h1 fun sz rows h2 => ?_
      obtain ⟨b1,b2⟩:=hp sz _ (by rw [hh id _ h2];rfl)
      simp only [List.length_map] at b1
      refine ⟨b1,?_⟩
      rcases b2 with ⟨c1,c2,c3⟩ | ⟨b,cap,c,e,c1,c2,c3,c4,c5⟩
      · exact .inl ⟨by rw [hr id hid];exact c1,by simpa using c2,c3⟩
      · exact .inr ⟨b,cap,c,e,by rw [hr id hid];exact c1,c2,c3,c4,c5⟩
  | map id=>
    simp only [je] at hv
    have hid:id < m:=by simpa [zG] using hb
    cases hv with
    | map _ _ _ h1 hp=>
      refine .map id v hid h1 fun es h2 => ?_
      obtain ⟨b,b1,b2⟩:=hp _ (by rw [hh id _ h2];rfl)
      exact ⟨b,by rw [hr id hid];exact b1,b2⟩
  | func=>cases hb
  | agg=>cases hb
  | tuple=>cases hb
theorem qO {g0:Gh} {m:Nat} (hr:∀ i,i < m→g0.ρ i=g.ρ (φ i)) (hz:g0.Z=g.Z) (hh:∀ i o,h0 i=some o→h (φ i)=some (zV φ o)) {x:AV} {v:Value} (hb:xn m x=true) (hv:RV C g h N w (Zg φ x) v):RV C g0 h0 (· < m) w x v:=by
  cases x with
  | func f a c=>
    simp only [xn,Bool.and_eq_true,List.all_eq_true] at hb
    simp only [Zg] at hv
    cases hv with
    | func _ _ _ vf vc hlf hlc hf hc=>
      refine .func f a c vf vc (by simpa using hlf) (by simpa using hlc) (fun i y u h1 h2 => ?_) (fun i y u h1 h2 => ?_)
      · exact yi hr hz hh (hb.1 y (List.mem_of_getElem? h1)) (hf i _ u (by rw [List.getElem?_map,h1];rfl) h2)
      · exact yi hr hz hh (hb.2 y (List.mem_of_getElem? h1)) (hc i _ u (by rw [List.getElem?_map,h1];rfl) h2)
  | agg cs=>
    simp only [xn,List.all_eq_true] at hb
    simp only [Zg] at hv
    cases hv with
    | agg _ vs hl h1 hr'=>
      exact .agg cs vs (by simpa using hl) h1 fun i y u e1 e2=>yi hr hz hh (hb y (List.mem_of_getElem? e1)) (hr' i _ u (by rw [List.getElem?_map,e1];rfl) e2)
  | tuple cs=>
    simp only [xn,List.all_eq_true] at hb
    simp only [Zg] at hv
    cases hv with
    | tuple _ vs hl hr'=>
      exact .tuple cs vs (by simpa using hl) fun i y u e1 e2=>yi hr hz hh (hb y (List.mem_of_getElem? e1)) (hr' i _ u (by rw [List.getElem?_map,e1];rfl) e2)
  | _=>exact yi hr hz hh hb hv
theorem Vf {g0:Gh} {m:Nat} (hr:∀ i,i < m→g0.ρ i=g.ρ (φ i)) (hz:g0.Z=g.Z) (hh:∀ i o,h0 i=some o→h (φ i)=some (zV φ o)) {x:AV} {v:Value} (hb:zO m x=true) (hv:RV C g h N w (vj φ x) v):RV C g0 h0 (· < m) w x v:=by
  cases x with
  | tuple cs=>
    simp only [zO,List.all_eq_true] at hb
    simp only [vj] at hv
    cases hv with
    | tuple _ vs hl hr'=>
      exact .tuple cs vs (by simpa using hl) fun i y u e1 e2=>qO hr hz hh (hb y (List.mem_of_getElem? e1)) (hr' i _ u (by rw [List.getElem?_map,e1];rfl) e2)
  | top=>exact qO (x:=.top) hr hz hh hb hv
  | undef=>exact qO (x:=.undef) hr hz hh hb hv
  | imm y=>exact qO (x:=.imm y) hr hz hh hb hv
  | nil=>exact qO (x:=.nil) hr hz hh hb hv
  | nnil=>exact qO (x:=.nnil) hr hz hh hb hv
  | Zav a b=>exact qO (x:=.Zav a b) hr hz hh hb hv
  | eptr a=>exact qO (x:=.eptr a) hr hz hh hb hv
  | ptr a b c=>exact qO (x:=.ptr a b c) hr hz hh hb hv
  | Zam a b c=>exact qO (x:=.Zam a b c) hr hz hh hb hv
  | map a=>exact qO (x:=.map a) hr hz hh hb hv
  | func a b c=>exact qO (x:=.func a b c) hr hz hh hb hv
  | agg a=>exact qO (x:=.agg a) hr hz hh hb hv
  | yld a b=>exact qO (x:=.yld a b) hr hz hh hb hv
theorem qF {g0:Gh} {m:Nat} (hr:∀ i,i < m→g.ρ (φ i)=g0.ρ i) (hz:g0.Z=g.Z) (hN:∀ i,i < m→N (φ i)) (hh:∀ i o,i < m→h (φ i)=some o→∃ o0,h0 i=some o0∧o=zV φ o0) {x:AV} {v:Value} (hb:zG m x=true) (hv:RV C g0 h0 (· < m) w x v):RV C g h N w (je φ x) v:=by
  cases hv with
  | top=>cases v<;>exact .top _
  | undef=>exact .undef
  | imm y _ hr'=>exact .imm _ _ (by rw [←hz];exact hr')
  | nil=>exact .nil
  | nnil a cap=>exact .nnil a cap
  | yld l id hid hp=>
    refine .yld l (φ id) (hN id hid) fun R s pe h2 => ?_
    obtain ⟨o0,e0,e1⟩:=hh id _ hid h2
    cases o0<;>simp only [zV] at e1<;>cases e1
    rw [hr id hid];exact hp _ _ _ e0
  | Zav id rows _ hr' hid ht=>
    refine .Zav (φ id) rows v (by rw [←hz];exact hr') (hN id hid) fun sz len h1 => ?_
    obtain ⟨o0,e0,e1⟩:=hh id _ hid h1
    cases o0<;>simp only [zV] at e1<;>cases e1
    obtain ⟨a1,a2,a3⟩:=ht _ _ e0
    refine ⟨a1,a2,fun e => ?_⟩
    rcases a3 e with ⟨b1,b2⟩ | ⟨b,cap,c,e',b1,b2,b3,b4⟩
    · exact .inl ⟨by rw [hr id hid];exact b1,b2⟩
    · exact .inr ⟨b,cap,c,e',by rw [hr id hid];exact b1,b2,b3,b4⟩
  | eptr cells b off cv hz' hc hr'=>exact .eptr cells b off cv (by rw [←hz];exact hz') hc (by rw [←hz];exact hr')
  | ptr id row off _ hid h1 hp=>
    refine .ptr (φ id) row off v (hN id hid) h1 fun sz rows h2 => ?_
    obtain ⟨o0,e0,e1⟩:=hh id _ hid h2
    cases o0<;>simp only [zV] at e1<;>cases e1
    obtain ⟨b,b1,b2⟩:=hp _ _ e0
    exact ⟨b,by rw [hr id hid];exact b1,b2⟩
  | Zam id off len _ hid h1 hp=>
    refine .Zam (φ id) off len v (hN id hid) h1 fun sz rows h2 => ?_
    obtain ⟨o0,e0,e1⟩:=hh id _ hid h2
    cases o0<;>simp only [zV] at e1<;>cases e1
    obtain ⟨b1,b2⟩:=hp _ _ e0
    refine ⟨by simpa using b1,?_⟩
    rcases b2 with ⟨c1,c2,c3⟩ | ⟨b,cap,c,e,c1,c2,c3,c4,c5⟩
    · exact .inl ⟨by rw [hr id hid];exact c1,by rw [c2];rfl,c3⟩
    · exact .inr ⟨b,cap,c,e,by rw [hr id hid];exact c1,c2,c3,c4,c5⟩
  | map id _ hid h1 hp=>
    refine .map (φ id) v (hN id hid) h1 fun es h2 => ?_
    obtain ⟨o0,e0,e1⟩:=hh id _ hid h2
    cases o0<;>simp only [zV] at e1<;>cases e1
    obtain ⟨b,b1,b2⟩:=hp _ e0
    exact ⟨b,by rw [hr id hid];exact b1,b2⟩
  | func=>cases hb
  | agg=>cases hb
  | tuple=>cases hb
theorem ji {g0:Gh} {m:Nat} (hr:∀ i,i < m→g.ρ (φ i)=g0.ρ i) (hz:g0.Z=g.Z) (hN:∀ i,i < m→N (φ i)) (hh:∀ i o,i < m→h (φ i)=some o→∃ o0,h0 i=some o0∧o=zV φ o0) {x:AV} {v:Value} (hb:xn m x=true) (hv:RV C g0 h0 (· < m) w x v):RV C g h N w (Zg φ x) v:=by
  cases x with
  | func f a c=>
    simp only [xn,Bool.and_eq_true,List.all_eq_true] at hb
    simp only [Zg]
    cases hv with
    | func _ _ _ vf vc hlf hlc hf hc=>
      refine .func f _ _ vf vc (by simpa using hlf) (by simpa using hlc) (fun i y u h1 h2 => ?_) (fun i y u h1 h2 => ?_)
      · rw [List.getElem?_map,Option.map_eq_some_iff] at h1
        obtain ⟨z,h1,rfl⟩:=h1
        exact qF hr hz hN hh (hb.1 z (List.mem_of_getElem? h1)) (hf i z u h1 h2)
      · rw [List.getElem?_map,Option.map_eq_some_iff] at h1
        obtain ⟨z,h1,rfl⟩:=h1
        exact qF hr hz hN hh (hb.2 z (List.mem_of_getElem? h1)) (hc i z u h1 h2)
  | agg cs=>
    simp only [xn,List.all_eq_true] at hb
    simp only [Zg]
    cases hv with
    | agg _ vs hl h1 hr'=>
      refine .agg _ vs (by simpa using hl) h1 fun i y u e1 e2 => ?_
      rw [List.getElem?_map,Option.map_eq_some_iff] at e1
      obtain ⟨z,e1,rfl⟩:=e1
      exact qF hr hz hN hh (hb z (List.mem_of_getElem? e1)) (hr' i z u e1 e2)
  | tuple cs=>
    simp only [xn,List.all_eq_true] at hb
    simp only [Zg]
    cases hv with
    | tuple _ vs hl hr'=>
      refine .tuple _ vs (by simpa using hl) fun i y u e1 e2 => ?_
      rw [List.getElem?_map,Option.map_eq_some_iff] at e1
      obtain ⟨z,e1,rfl⟩:=e1
      exact qF hr hz hN hh (hb z (List.mem_of_getElem? e1)) (hr' i z u e1 e2)
  | top=>exact qF (x:=.top) hr hz hN hh hb hv
  | undef=>exact qF (x:=.undef) hr hz hN hh hb hv
  | imm y=>exact qF (x:=.imm y) hr hz hN hh hb hv
  | nil=>exact qF (x:=.nil) hr hz hN hh hb hv
  | nnil=>exact qF (x:=.nnil) hr hz hN hh hb hv
  | Zav a b=>exact qF (x:=.Zav a b) hr hz hN hh hb hv
  | eptr a=>exact qF (x:=.eptr a) hr hz hN hh hb hv
  | ptr a b c=>exact qF (x:=.ptr a b c) hr hz hN hh hb hv
  | Zam a b c=>exact qF (x:=.Zam a b c) hr hz hN hh hb hv
  | map a=>exact qF (x:=.map a) hr hz hN hh hb hv
  | yld a b=>exact qF (x:=.yld a b) hr hz hN hh hb hv
theorem Kr {g0:Gh} {m:Nat} (hr:∀ i,i < m→g.ρ (φ i)=g0.ρ i) (hz:g0.Z=g.Z) (hN:∀ i,i < m→N (φ i)) (hh:∀ i o,i < m→h (φ i)=some o→∃ o0,h0 i=some o0∧o=zV φ o0) {x:AV} {v:Value} (hb:zO m x=true) (hv:RV C g0 h0 (· < m) w x v):RV C g h N w (vj φ x) v:=by
  cases x with
  | tuple cs=>
    simp only [zO,List.all_eq_true] at hb
    simp only [vj]
    cases hv with
    | tuple _ vs hl hr'=>
      refine .tuple _ vs (by simpa using hl) fun i y u e1 e2 => ?_
      rw [List.getElem?_map,Option.map_eq_some_iff] at e1
      obtain ⟨z,e1,rfl⟩:=e1
      exact ji hr hz hN hh (hb z (List.mem_of_getElem? e1)) (hr' i z u e1 e2)
  | top=>exact ji (x:=.top) hr hz hN hh hb hv
  | undef=>exact ji (x:=.undef) hr hz hN hh hb hv
  | imm y=>exact ji (x:=.imm y) hr hz hN hh hb hv
  | nil=>exact ji (x:=.nil) hr hz hN hh hb hv
  | nnil=>exact ji (x:=.nnil) hr hz hN hh hb hv
  | Zav a b=>exact ji (x:=.Zav a b) hr hz hN hh hb hv
  | eptr a=>exact ji (x:=.eptr a) hr hz hN hh hb hv
  | ptr a b c=>exact ji (x:=.ptr a b c) hr hz hN hh hb hv
  | Zam a b c=>exact ji (x:=.Zam a b c) hr hz hN hh hb hv
  | map a=>exact ji (x:=.map a) hr hz hN hh hb hv
  | func a b c=>exact ji (x:=.func a b c) hr hz hN hh hb hv
  | agg a=>exact ji (x:=.agg a) hr hz hN hh hb hv
  | yld a b=>exact ji (x:=.yld a b) hr hz hN hh hb hv
theorem zfk {g0:Gh} {m b:Nat} (hr:∀ i,i < m→g0.ρ i=g.ρ (φ i)) (hz:g0.Z=g.Z) (hh:∀ i o,h0 i=some o→h (φ i)=some (zV φ o)) {o:Zah} (hb:zK m o) (hv:RObj C g h N w b (zV φ o)):RObj C g0 h0 (· < m) w b o:=by
  cases o with
  | rows sz rows=>
    simp only [zV,RObj] at hv ⊢
    obtain ⟨a1,c,e,a2,a3,a4⟩:=hv
    refine ⟨by rw [hz];exact a1,c,e,a2,fun i row h1 => ?_,fun i row j x h1 h2 => ?_⟩
    · have:=a3 i (vV φ row) (by rw [List.getElem?_map,h1];rfl);simpa [vV] using this
    · obtain ⟨cv,b1,b2,b3⟩:=a4 i (vV φ row) j (vj φ x) (by rw [List.getElem?_map,h1];rfl) (by simp only [vV];rw [List.getElem?_map,h2];rfl)
      exact ⟨cv,b1,b2,Vf hr hz hh (hb row (List.mem_of_getElem? h1) x (List.mem_of_getElem? h2)) b3⟩
  | tip sz l=>simp only [zV,RObj] at hv ⊢; rw [hz];exact hv
  | map es=>
    simp only [zV,RObj] at hv ⊢
    obtain ⟨a1,ces,clock,a2,a3,a4⟩:=hv
    refine ⟨by rw [hz];exact a1,ces,clock,a2,by simpa using a3,fun i k x h1 => ?_⟩
    obtain ⟨e,b1,b2,b3⟩:=a4 i k (vj φ x) (by rw [List.getElem?_map,h1];rfl)
    exact ⟨e,b1,b2,Vf hr hz hh (hb _ (List.mem_of_getElem? h1)) b3⟩
  | dead=>trivial
  | lp l R s pe=>simp only [zV,RObj] at hv ⊢; rw [hz];exact hv
theorem zhc {g0:Gh} {m b:Nat} (hr:∀ i,i < m→g.ρ (φ i)=g0.ρ i) (hz:g0.Z=g.Z) (hN:∀ i,i < m→N (φ i)) (hh:∀ i o,i < m→h (φ i)=some o→∃ o0,h0 i=some o0∧o=zV φ o0) {o:Zah} (hb:zK m o) (hv:RObj C g0 h0 (· < m) w b o):RObj C g h N w b (zV φ o):=by
  cases o with
  | rows sz rows=>
    simp only [zV,RObj] at hv ⊢
    obtain ⟨a1,c,e,a2,a3,a4⟩:=hv
    refine ⟨by rw [←hz];exact a1,c,e,a2,fun i row h1 => ?_,fun i row j x h1 h2 => ?_⟩
    · rw [List.getElem?_map,Option.map_eq_some_iff] at h1
      obtain ⟨z,h1,rfl⟩:=h1
      simpa [vV] using a3 i z h1
    · rw [List.getElem?_map,Option.map_eq_some_iff] at h1
      obtain ⟨z,h1,rfl⟩:=h1
      simp only [vV] at h2
      rw [List.getElem?_map,Option.map_eq_some_iff] at h2
      obtain ⟨y,h2,rfl⟩:=h2
      obtain ⟨cv,b1,b2,b3⟩:=a4 i z j y h1 h2
      exact ⟨cv,b1,b2,Kr hr hz hN hh (hb z (List.mem_of_getElem? h1) y (List.mem_of_getElem? h2)) b3⟩
  | tip sz l=>simp only [zV,RObj] at hv ⊢; rw [←hz];exact hv
  | map es=>
    simp only [zV,RObj] at hv ⊢
    obtain ⟨a1,ces,clock,a2,a3,a4⟩:=hv
    refine ⟨by rw [←hz];exact a1,ces,clock,a2,by simpa using a3,fun i k x h1 => ?_⟩
    rw [List.getElem?_map,Option.map_eq_some_iff] at h1
    obtain ⟨z,h1,h2⟩:=h1
    simp only [zcn] at h2
    cases h2
    obtain ⟨e,b1,b2,b3⟩:=a4 i z.1 z.2 h1
    exact ⟨e,b1,b2,Kr hr hz hN hh (hb _ (List.mem_of_getElem? h1)) b3⟩
  | dead=>trivial
  | lp l R s pe=>simp only [zV,RObj] at hv ⊢; rw [←hz];exact hv
theorem Jz {n:Nat} (inj:∀ i j,i < n→j < n→φ i=φ j→i=j):∀ {l:List (Nat×Zah)},(∀ p∈l,p.1 < n)→∀ i,i < n→hup (rnH φ l) h (φ i)=match za l i with
    | some o=>some (zV φ o)
    | none=>h (φ i)
  | [],_,i,hi=>rfl
  | (k,o)::r,hl,i,hi=>by
    simp only [rnH,hup,za]
    by_cases e:k=i
    · subst e;rw [if_pos rfl,if_pos rfl]
    · rw [if_neg e,if_neg (fun h=>e (inj k i (hl (k,o) (by simp)) hi h))]
      exact Jz inj (fun p hp=>hl p (by simp [hp])) i hi
theorem vW {n:Nat}:∀ {l:List (Nat×Zah)},(∀ p∈l,p.1 < n)→∀ j,(∀ i,i < n→φ i≠j)→hup (rnH φ l) h j=h j
  | [],_,j,hj=>rfl
  | (k,o)::r,hl,j,hj=>by
    simp only [rnH,hup]
    rw [if_neg (hj k (hl (k,o) (by simp)))]
    exact vW (fun p hp=>hl p (by simp [hp])) j hj
open Classical in
noncomputable def inv (φ:Nat→Nat) (n j:Nat):Option Nat:=if h:∃ i,i < n∧φ i=j then some h.choose else none
theorem zix {n i:Nat} (inj:∀ i j,i < n→j < n→φ i=φ j→i=j) (hi:i < n):inv φ n (φ i)=some i:=by
  unfold inv
  have h:∃ k,k < n∧φ k=φ i:=⟨i,hi,rfl⟩
  rw [dif_pos h]
  have:=h.choose_spec
  rw [inj _ _ this.1 hi this.2]
theorem qu {n i j:Nat} (h:inv φ n j=some i):i < n∧φ i=j:=by
  unfold inv at h
  split at h
  · rename_i hh;cases h;exact hh.choose_spec
  · cases h
theorem vk {n j:Nat} (h:inv φ n j=none):∀ i,i < n→φ i≠j:=by
  unfold inv at h
  split at h
  · cases h
  · rename_i hh;exact fun i hi e=>hh ⟨i,hi,e⟩
theorem frame {f m n1:Nat} {args0:List AV} {heap0 heap1:List (Nat×Zah)} {r0:AV} (hc:zfj C f args0 heap0 m r0 heap1 n1)
    (hk0:∀ p∈heap0,p.1 < m∧zK m p.2) (hka:∀ x∈args0,zO m x=true) (hk1:∀ p∈heap1,p.1 < n1∧zK n1 p.2) (hr0:zO n1 r0=true)
    (hall:∀ i,i < m→(za heap1 i).isSome=true) (inj:∀ i j,i < n1→j < n1→φ i=φ j→i=j)
    (hB:∀ i o,za heap0 i=some o→h (φ i)=some (zV φ o)) (hN:∀ i,i < m→N (φ i)) (hfr:∀ i,m≤i→i < n1→¬ N (φ i)) (hN1:∀ j,N j→N' j) (hN2:∀ i,i < n1→N' (φ i))
    {vs:List Value} (R:RH C g h N w) (hv:RVs C g h N w (rnL φ args0) vs) (hm:m≤n1) :
    Calls C.P (C.fnum f) vs.toArray w fun e w'=>∃ v g',e=.returned v∧Evo g h N w g' (hup (rnH φ heap1) h) N' w'∧RH C g' (hup (rnH φ heap1) h) N' w'∧RV C g' (hup (rnH φ heap1) h) N' w' (vj φ r0) v:=by
  let g0:Gh:=⟨fun i=>if i < m then g.ρ (φ i) else none,g.Z⟩
  have hrho:∀ i,i < m→g0.ρ i=g.ρ (φ i):=fun i hi=>if_pos hi
  have hrho':∀ i b,g0.ρ i=some b→i < m∧g.ρ (φ i)=some b:=fun i b hb=>by
    simp only [g0] at hb
    split at hb
    · exact ⟨‹_›,hb⟩
    · cases hb
  have hh0:∀ i o,za heap0 i=some o→i < m∧zK m o:=fun i o ho=>hk0 (i,o) (jd ho)
  have R0:RH C g0 (za heap0) (· < m) w:={
    inj:=fun i j b h1 h2=>by
      obtain ⟨a1,a2⟩:=hrho' i b h1
      obtain ⟨b1,b2⟩:=hrho' j b h2
      exact inj i j (by omega) (by omega) (R.inj _ _ b a2 b2)
    lt:=fun i b h1=>by
      obtain ⟨a1,a2⟩:=hrho' i b h1
      exact ⟨(R.lt _ b a2).1,a1⟩
    key:=fun i o ho=>(hh0 i o ho).1
    obj:=fun i b o h1 ho=>by
      obtain ⟨a1,a2⟩:=hrho' i b h1
      exact zfk hrho rfl hB (hh0 i o ho).2 (R.obj _ b _ a2 (hB i o ho))
    tip0:=fun i sz len ho h1=>by
      have hi:=(hh0 i _ ho).1
      exact R.tip0 (φ i) sz len (hB i _ ho) (by rw [←hrho i hi];exact h1)
    zlt:=R.zlt
    fix:=⟨R.fix.1,R.fix.2.1,fun b hb ⟨i,hi⟩=>R.fix.2.2 b hb ⟨_,(hrho' i b hi).2⟩⟩}
  have hv0:RVs C g0 (za heap0) (· < m) w args0 vs:=⟨by have:=hv.1;simpa [rnL] using this,fun j x u h1 h2=>
    Vf hrho rfl hB (hka x (List.mem_of_getElem? h1)) (hv.2 j (vj φ x) u (by simp only [rnL];rw [List.getElem?_map,h1];rfl) h2)⟩
  refine (hc.2 g0 w vs R0 hv0).mono ?_
  rintro e w' ⟨v,r,hp1,nx,g1,rfl,⟨e1,e2,e3⟩,E0,R1,hr1⟩
  rw [e2,e3] at E0 R1
  rw [e1,e2,e3] at hr1
  clear e1 e2 e3
  have hl1:∀ p∈heap1,p.1 < n1:=fun p hp=>(hk1 p hp).1
  have hh1:∀ i o,za heap1 i=some o→i < n1∧zK n1 o:=fun i o ho=>hk1 (i,o) (jd ho)
  let g':Gh:=⟨fun j=>match inv φ n1 j with | some i=>g1.ρ i | none=>g.ρ j,g1.Z⟩
  have hg1:∀ i,i < n1→g'.ρ (φ i)=g1.ρ i:=fun i hi=>by simp only [g',zix inj hi]
  have hgo:∀ j,inv φ n1 j=none→g'.ρ j=g.ρ j:=fun j hj=>by simp only [g',hj]
  have hin:∀ i,i < n1→hup (rnH φ heap1) h (φ i)=match za heap1 i with | some o=>some (zV φ o) | none=>h (φ i):=Jz inj hl1
  have hoff:∀ j,inv φ n1 j=none→hup (rnH φ heap1) h j=h j:=fun j hj=>vW hl1 j (vk hj)
  have hfwd:∀ i o,i < n1→hup (rnH φ heap1) h (φ i)=some o→∃ o0,za heap1 i=some o0∧o=zV φ o0:=fun i o hi ho=>by
    rw [hin i hi] at ho
    cases ha:za heap1 i with
    | some o0=>rw [ha] at ho;simp only [Option.some.injEq] at ho;exact ⟨o0,rfl,ho.symm⟩
    | none=>
      rw [ha] at ho
      simp only at ho
      rcases Nat.lt_or_ge i m with h1 | h1
      · have:=hall i h1;rw [ha] at this;cases this
      · exact absurd (R.key _ _ ho) (hfr i h1 hi)
  have hNi:∀ j,N j→∀ i,inv φ n1 j=some i→i < m:=fun j hj i hi=>by
    obtain ⟨h1,h2⟩:=qu hi
    rcases Nat.lt_or_ge i m with h3 | h3
    · exact h3
    · exact absurd (by rw [h2];exact hj) (hfr i h3 h1)
  have E:Evo g h N w g' (hup (rnH φ heap1) h) N' w':={
    os:=E0.os
    tape:=E0.tape
    output:=E0.output
    size:=E0.size
    old:=fun b hb ho=>E0.old b hb (fun ⟨i,hi⟩=>ho ⟨φ i,(hrho' i b hi).2⟩)
    own:=fun b ⟨j,hj⟩=>by
      cases hi:inv φ n1 j with
      | some i=>
        obtain ⟨h1,rfl⟩:=qu hi
        rw [hg1 i h1] at hj
        rcases E0.own b ⟨i,hj⟩ with ⟨k,hk⟩ | hk
        · exact .inl ⟨φ k,(hrho' k b hk).2⟩
        · exact .inr hk
      | none=>rw [hgo j hi] at hj;exact .inl ⟨j,hj⟩
    zmono:=E0.zmono
    cell:=E0.cell
    shape:=E0.shape
    next:=hN1
    rho:=fun j b hb o ho hnd hj=>by
      cases hi:inv φ n1 j with
      | some i=>
        have him:=hNi j hj i hi
        obtain ⟨h1,rfl⟩:=qu hi
        obtain ⟨o0,e0,rfl⟩:=hfwd i o h1 ho
        rw [hg1 i h1]
        rcases E0.rho i b (by rw [hrho i him];exact hb) o0 e0 (fun e=>hnd (by rw [e];rfl)) him with h3 | ⟨sz,l,sz',l',h3,h4,h5⟩
        · exact .inl h3
        · subst h4;exact .inr ⟨sz,l,sz',l',by rw [hB i _ h3];rfl,rfl,h5⟩
      | none=>rw [hgo j hi];exact .inl hb
    rho0:=fun j hb hj o ho hnd=>by
      cases hi:inv φ n1 j with
      | some i=>
        have him:=hNi j hj i hi
        obtain ⟨h1,rfl⟩:=qu hi
        obtain ⟨o0,e0,rfl⟩:=hfwd i o h1 ho
        rw [hg1 i h1]
        rcases E0.rho0 i (by rw [hrho i him];exact hb) him o0 e0 (fun e=>hnd (by rw [e];rfl)) with h3 | ⟨sz,l,sz',l',h3,h4,h5⟩
        · exact .inl h3
        · subst h4;exact .inr ⟨sz,l,sz',l',by rw [hB i _ h3];rfl,rfl,h5⟩
      | none=>rw [hgo j hi];exact .inl hb
    rows:=fun j hj sz rows ho=>by
      cases hi:inv φ n1 j with
      | some i=>
        have him:=hNi j hj i hi
        obtain ⟨h1,rfl⟩:=qu hi
        obtain ⟨o0,e0,e1⟩:=hfwd i _ h1 ho
        cases o0<;>simp only [zV] at e1<;>cases e1
        obtain ⟨r2,h3,h4⟩:=E0.rows i him _ _ e0
        exact ⟨_,by rw [hB i _ h3];rfl,by simpa using h4⟩
      | none=>rw [hoff j hi] at ho;exact ⟨rows,ho,rfl⟩
    tips:=fun j hj sz len ho=>by
      cases hi:inv φ n1 j with
      | some i=>
        have him:=hNi j hj i hi
        obtain ⟨h1,rfl⟩:=qu hi
        obtain ⟨o0,e0,e1⟩:=hfwd i _ h1 ho
        cases o0<;>simp only [zV] at e1<;>cases e1
        obtain ⟨l2,h3,h4⟩:=E0.tips i him _ _ e0
        exact ⟨l2,by rw [hB i _ h3];rfl,h4⟩
      | none=>rw [hoff j hi] at ho;exact ⟨len,ho,Nat.le_refl _⟩
    maps:=fun j hj es ho=>by
      cases hi:inv φ n1 j with
      | some i=>
        have him:=hNi j hj i hi
        obtain ⟨h1,rfl⟩:=qu hi
        obtain ⟨o0,e0,e1⟩:=hfwd i _ h1 ho
        cases o0<;>simp only [zV] at e1<;>cases e1
        obtain ⟨e2,h3⟩:=E0.maps i him _ e0
        exact ⟨_,by rw [hB i _ h3];rfl⟩
      | none=>rw [hoff j hi] at ho;exact ⟨es,ho⟩
    lps:=fun j hj ll RR s pe ho=>by
      cases hi:inv φ n1 j with
      | some i=>
        have him:=hNi j hj i hi
        obtain ⟨h1,rfl⟩:=qu hi
        obtain ⟨o0,e0,e1⟩:=hfwd i _ h1 ho
        cases o0<;>simp only [zV] at e1<;>cases e1
        obtain ⟨e2,e3,h3⟩:=E0.lps i him _ _ _ _ e0
        exact ⟨_,_,by rw [hB i _ h3];rfl⟩
      | none=>rw [hoff j hi] at ho;exact ⟨s,pe,ho⟩}
  have hR:RH C g' (hup (rnH φ heap1) h) N' w':={
    inj:=fun i j b h1 h2=>by
      cases hi:inv φ n1 i with
      | some i0=>
        obtain ⟨a1,rfl⟩:=qu hi
        rw [hg1 i0 a1] at h1
        cases hj:inv φ n1 j with
        | some j0=>
          obtain ⟨b1,rfl⟩:=qu hj
          rw [hg1 j0 b1] at h2
          rw [R1.inj i0 j0 b h1 h2]
        | none=>
          rw [hgo j hj] at h2
          rcases E0.own b ⟨i0,h1⟩ with ⟨k,hk⟩ | hk
          · obtain ⟨k1,k2⟩:=hrho' k b hk
            have:=R.inj _ _ b k2 h2
            exact absurd this (vk hj k (by omega))
          · have:=(R.lt j b h2).1;omega
      | none=>
        rw [hgo i hi] at h1
        cases hj:inv φ n1 j with
        | some j0=>
          obtain ⟨b1,rfl⟩:=qu hj
          rw [hg1 j0 b1] at h2
          rcases E0.own b ⟨j0,h2⟩ with ⟨k,hk⟩ | hk
          · obtain ⟨k1,k2⟩:=hrho' k b hk
            have:=R.inj _ _ b k2 h1
            exact absurd this (vk hi k (by omega))
          · have:=(R.lt i b h1).1;omega
        | none=>
          rw [hgo j hj] at h2
          exact R.inj i j b h1 h2
    lt:=fun i b h1=>by
      cases hi:inv φ n1 i with
      | some i0=>
        obtain ⟨a1,rfl⟩:=qu hi
        rw [hg1 i0 a1] at h1
        exact ⟨(R1.lt i0 b h1).1,hN2 i0 a1⟩
      | none=>
        rw [hgo i hi] at h1
        obtain ⟨a1,a2⟩:=R.lt i b h1
        exact ⟨Nat.lt_of_lt_of_le a1 E0.size,hN1 i a2⟩
    key:=fun i o ho=>by
      cases hi:inv φ n1 i with
      | some i0=>obtain ⟨a1,rfl⟩:=qu hi;exact hN2 i0 a1
      | none=>rw [hoff i hi] at ho;exact hN1 i (R.key i o ho)
    obj:=fun i b o h1 ho=>by
      cases hi:inv φ n1 i with
      | some i0=>
        obtain ⟨a1,rfl⟩:=qu hi
        rw [hg1 i0 a1] at h1
        obtain ⟨o0,e0,rfl⟩:=hfwd i0 o a1 ho
        exact zhc (fun i hi=>hg1 i hi) rfl hN2 hfwd (hh1 i0 o0 e0).2 (R1.obj i0 b o0 h1 e0)
      | none=>
        rw [hgo i hi] at h1
        rw [hoff i hi] at ho
        have hro:=R.obj i b o h1 ho
        have hno:¬ ww g0 b:=fun ⟨k,hk⟩=>by
          obtain ⟨k1,k2⟩:=hrho' k b hk
          exact vk hi k (by omega) (R.inj _ _ b k2 h1)
        obtain ⟨q1,q2⟩:=E0.old b (R.lt i b h1).1 hno
        have q2':g'.Z b=g.Z b:=q2
        cases o with
        | rows sz rows=>
          simp only [RObj] at hro ⊢
          obtain ⟨a1,c,e,a2,a3,a4⟩:=hro
          refine ⟨by rw [q2'];exact a1,c,e,by rw [q1];exact a2,a3,fun i row j x u1 u2 => ?_⟩
          obtain ⟨cv,b1,b2,b3⟩:=a4 i row j x u1 u2
          exact ⟨cv,b1,b2,b3.mono E⟩
        | tip sz l=>
          simp only [RObj] at hro ⊢
          rw [q1,q2']
          exact hro
        | map es=>
          simp only [RObj] at hro ⊢
          obtain ⟨a1,ces,clock,a2,a3,a4⟩:=hro
          refine ⟨by rw [q2'];exact a1,ces,clock,by rw [q1];exact a2,a3,fun i k x u1 => ?_⟩
          obtain ⟨e,b1,b2,b3⟩:=a4 i k x u1
          exact ⟨e,b1,b2,b3.mono E⟩
        | dead=>trivial
        | lp l R s pe=>
          simp only [RObj] at hro ⊢
          rw [q1,q2']
          exact hro
    tip0:=fun i sz len ho h1=>by
      cases hi:inv φ n1 i with
      | some i0=>
        obtain ⟨a1,rfl⟩:=qu hi
        rw [hg1 i0 a1] at h1
        obtain ⟨o0,e0,e1⟩:=hfwd i0 _ a1 ho
        cases o0<;>simp only [zV] at e1<;>cases e1
        exact R1.tip0 i0 _ _ e0 h1
      | none=>
        rw [hgo i hi] at h1
        rw [hoff i hi] at ho
        exact R.tip0 i sz len ho h1
    zlt:=R1.zlt
    fix:=R.fix.evo E}
  exact ⟨v,g',rfl,E,hR,Kr (fun i hi=>hg1 i hi) rfl hN2 hfwd hr0 hr1⟩
end
end
inductive AllP:List Prop→Prop where
  | nil:AllP []
  | cons {p:Prop} {ps:List Prop} (h:p) (t:AllP ps):AllP (p::ps)
theorem AllP.app:∀ {ps qs:List Prop},AllP (ps++qs)→AllP ps∧AllP qs
  | [],qs,h=>⟨.nil,h⟩
  | p::ps,qs,h=>by
    cases h with
    | cons h t=>exact ⟨.cons h (AllP.app t).1,(AllP.app t).2⟩
theorem AllP.one {p:Prop} (h:AllP [p]):p:=by cases h;assumption
structure DOk (C:Ctx) (f:Nat) (args0:List AV) (heap0:List (Nat×Zah)) (m:Nat) (r0:AV) (heap1:List (Nat×Zah)) (d:Nat):Prop where
  det:zfj C f args0 heap0 m r0 heap1 (m+d)
  k0:∀ p∈heap0,p.1 < m∧zK m p.2
  ka:∀ x∈args0,zO m x=true
  k1:∀ p∈heap1,p.1 < m+d∧zK (m+d) p.2
  kr:zO (m+d) r0=true
  all:∀ i,i < m→(za heap1 i).isSome=true
  all0:∀ i,i < m→(za heap0 i).isSome=true
def phi (l:List Nat) (m next:Nat):Nat→Nat:=fun i=>if i < m then l.getD i 0 else next+(i - m)
def Q1:List Nat→Bool
  | []=>true
  | x::r=>!(r.contains x)&&Q1 r
inductive Thin (h0:List (Nat×Zah)):List (Nat×Zah)→List (Nat×Zah)→Prop where
  | nil:Thin h0 [] []
  | keep {k:Nat} {o:Zah} {r s:List (Nat×Zah)} (t:Thin h0 r s):Thin h0 ((k,o)::r) ((k,o)::s)
  | drop {k:Nat} {o:Zah} {r s:List (Nat×Zah)} (hk:za h0 k=some o) (hs:za s k=none) (t:Thin h0 r s):Thin h0 ((k,o)::r) s
theorem Thin.get {h0 h1 h2:List (Nat×Zah)} (t:Thin h0 h1 h2):∀ i,za h1 i=za h2 i∨(za h2 i=none∧za h1 i=za h0 i):=by
  induction t with
  | nil=>exact fun i=>.inl rfl
  | keep t ih=>
    intro i
    simp only [za]
    split
    · exact .inl rfl
    · exact ih i
  | drop hk hs t ih=>
    intro i
    simp only [za]
    split
    · rename_i e;subst e;exact .inr ⟨hs,hk.symm⟩
    · exact ih i
theorem Thin.sub {h0 h1 h2:List (Nat×Zah)} (t:Thin h0 h1 h2):∀ p∈h2,p∈h1:=by
  induction t with
  | nil=>exact fun p hp=>hp
  | keep t ih=>
    intro p hp
    rcases List.mem_cons.1 hp with e | e
    · rw [e];simp
    · exact List.mem_cons_of_mem _ (ih p e)
  | drop hk hs t ih=>exact fun p hp=>List.mem_cons_of_mem _ (ih p hp)
theorem Ks {φ:Nat→Nat} {n:Nat} {h:Nat→Option Zah} {h0 h1 h2:List (Nat×Zah)} (inj:∀ i j,i < n→j < n→φ i=φ j→i=j) (hl:∀ p∈h1,p.1 < n) (hB:∀ i o,za h0 i=some o→h (φ i)=some (zV φ o)) (t:Thin h0 h1 h2):hup (rnH φ h1) h=hup (rnH φ h2) h:=by
  funext j
  cases hj:inv φ n j with
  | some i=>
    obtain ⟨hi,rfl⟩:=qu hj
    rw [Jz inj hl i hi,Jz inj (fun p hp=>hl p (t.sub p hp)) i hi]
    rcases t.get i with e | ⟨e1,e2⟩
    · rw [e]
    · rw [e1,e2]
      cases ho:za h0 i with
      | none=>rfl
      | some o=>simp only;rw [hB i o ho]
  | none=>rw [vW hl j (vk hj),vW (fun p hp=>hl p (t.sub p hp)) j (vk hj)]
def CallP (C:Ctx) (f:Nat) (args:List AV) (l:List Nat) (m next:Nat) (objs:List (Nat×Zah)) (r:AV) (ups:List (Nat×Zah)) (d:Nat):Prop:=
  ∃ args0 heap0 r0 heap1 heap2,DOk C f args0 heap0 m r0 heap1 d∧Thin heap0 heap1 heap2∧rnL (phi l m next) args0=args∧rnH (phi l m next) heap0=objs∧vj (phi l m next) r0=r∧rnH (phi l m next) heap2=ups
theorem zj {C:Ctx} {f m d:Nat} {args0:List AV} {heap0 heap1 heap2 objs ups:List (Nat×Zah)} {r0:AV} (hd:DOk C f args0 heap0 m r0 heap1 d) (l:List Nat) (next:Nat) (ht:Thin heap0 heap1 heap2) (ho:rnH (phi l m next) heap0=objs) (hu:rnH (phi l m next) heap2=ups) :
    CallP C f (rnL (phi l m next) args0) l m next objs (vj (phi l m next) r0) ups d:=⟨args0,heap0,r0,heap1,heap2,hd,ht,rfl,ho,rfl,hu⟩
def xF (heap:List (Nat×Zah)):List Nat→Option (List (Nat×Zah))
  | []=>some []
  | i::l=>match za heap i with
    | none=>none
    | some o=>match xF heap l with
      | some r=>some ((i,o)::r)
      | none=>none
theorem yj {heap:List (Nat×Zah)}:∀ {l:List Nat} {objs:List (Nat×Zah)},xF heap l=some objs→∀ p∈objs,za heap p.1=some p.2
  | [],objs,h=>by cases h;intro p hp;cases hp
  | i::l,objs,h=>by
    simp only [xF] at h
    split at h
    · cases h
    · rename_i o ho
      split at h
      · rename_i r hr
        cases h
        intro p hp
        rcases List.mem_cons.1 hp with rfl | hp
        · exact ho
        · exact yj hr p hp
      · cases h
theorem JA {φ:Nat→Nat}:∀ {l:List (Nat×Zah)} {k:Nat} {o:Zah},(k,o)∈l→(φ k,zV φ o)∈rnH φ l
  | (k',o')::r,k,o,h=>by
    simp only [rnH]
    rcases List.mem_cons.1 h with h | h
    · cases h;simp
    · exact List.mem_cons_of_mem _ (JA h)
theorem X9:∀ {l:List Nat},Q1 l=true→∀ i j:Nat,i < l.length→j < l.length→l.getD i 0=l.getD j 0→i=j
  | [],_,i,j,hi,_,_=>by simp at hi
  | x::r,h,i,j,hi,hj,e=>by
    simp only [Q1,Bool.and_eq_true,Bool.not_eq_true',List.contains_eq_mem,decide_eq_false_iff_not] at h
    have key:∀ k,k < r.length→r.getD k 0∈r:=fun k hk=>by simp [hk]
    cases i with
    | zero=>
      cases j with
      | zero=>rfl
      | succ j=>
        simp only [List.getD_cons_zero,List.getD_cons_succ] at e
        exact absurd (by rw [e];exact key j (by simpa using hj)) h.1
    | succ i=>
      cases j with
      | zero=>
        simp only [List.getD_cons_zero,List.getD_cons_succ] at e
        exact absurd (by rw [←e];exact key i (by simpa using hi)) h.1
      | succ j=>
        simp only [List.getD_cons_succ] at e
        rw [X9 h.2 i j (by simpa using hi) (by simpa using hj) e]
structure PhiOk (l:List Nat) (m next:Nat):Prop where
  len:l.length=m
  nd:Q1 l=true
  lt:∀ x∈l,x < next
def Zu (l:List Nat) (m next:Nat):Bool:=l.length == m&&Q1 l&&l.all fun x=>decide (x < next)
theorem Kt {l:List Nat} {m next:Nat} (h:Zu l m next=true):PhiOk l m next:=by
  simp only [Zu,Bool.and_eq_true,beq_iff_eq,List.all_eq_true,decide_eq_true_eq] at h
  exact ⟨h.1.1,h.1.2,h.2⟩
theorem Wa {l:List Nat} {m next:Nat} (P:PhiOk l m next) {i:Nat} (hi:i < m):phi l m next i < next:=by
  simp only [phi,if_pos hi]
  exact P.lt _ (by simp [P.len,hi])
theorem JB {l:List Nat} {m next:Nat} (P:PhiOk l m next) (i j:Nat) (e:phi l m next i=phi l m next j):i=j:=by
  rcases Nat.lt_or_ge i m with h1 | h1<;>rcases Nat.lt_or_ge j m with h2 | h2
  · simp only [phi,if_pos h1,if_pos h2] at e
    exact X9 P.nd i j (by rw [P.len];exact h1) (by rw [P.len];exact h2) e
  · have:=Wa P h1
    simp only [phi,if_neg (Nat.not_lt.2 h2)] at e this
    omega
  · have:=Wa P h2
    simp only [phi,if_neg (Nat.not_lt.2 h1)] at e this
    omega
  · simp only [phi,if_neg (Nat.not_lt.2 h1),if_neg (Nat.not_lt.2 h2)] at e
    omega
theorem ACall.det {C:Ctx} {f m d next:Nat} {args:List AV} {heap objs ups:List (Nat×Zah)} {l:List Nat} {r:AV} {K:AV→List (Nat×Zah)→Nat→Prop} (hc:CallP C f args l m next objs r ups d) (hp:Zu l m next=true) (ho:xF heap l=some objs)
    (hK:K r (zF ups heap) (next+d)):ACall C f args heap next K:=by
  obtain ⟨args0,heap0,r0,heap1,heap2,D,T,rfl,rfl,rfl,rfl⟩:=hc
  have P:=Kt hp
  refine ⟨D.det.1,fun g w vs R hv => ?_⟩
  have hth:=Ks (φ:=phi l m next) (n:=m+d) (h:=za heap) (fun i j _ _ e=>JB P i j e) (fun p hp=>(D.k1 p hp).1) (fun i o hi=>yj ho _ (JA (jd hi))) T
  have:=frame (φ:=phi l m next) (N':=(· < next+d)) D.det D.k0 D.ka D.k1 D.kr D.all (fun i j _ _ e=>JB P i j e)
    (fun i o hi=>yj ho _ (JA (jd hi))) (fun i hi=>Wa P hi) (fun i h1 _=>by simp only [phi,if_neg (Nat.not_lt.2 h1)];omega) (fun j hj=>by omega)
    (fun i hi=>by
      rcases Nat.lt_or_ge i m with h1 | h1
      · have:=Wa P h1;omega
      · simp only [phi,if_neg (Nat.not_lt.2 h1)];omega) R hv (by omega)
  refine this.mono ?_
  rintro e w' ⟨v,g',rfl,E,R',hr⟩
  refine ⟨v,_,_,_,g',rfl,hK,?_,?_,?_⟩
  · rw [js,←hth];exact E
  · rw [js,←hth];exact R'
  · rw [js,←hth];exact hr
theorem LCall.det {C:Ctx} {f m next d:Nat} {args:List AV} {heap objs ups:List (Nat×Zah)} {l:List Nat} {r:AV} (hc:CallP C f args l m next objs r ups d) (hp:Zu l m next=true) (ho:xF heap l=some objs) :
    LCall C f args (za heap) l r ups (List.range' next d):=by
  obtain ⟨args0,heap0,r0,heap1,heap2,D,T,rfl,rfl,rfl,rfl⟩:=hc
  have P:=Kt hp
  refine ⟨D.det.1,fun g h N w vs hag hex R hv => ?_⟩
  have hmem:∀ i o,za heap0 i=some o→h (phi l m next i)=some (zV (phi l m next) o):=fun i o hi=>by
    have hi':=(D.k0 _ (jd hi)).1
    rw [hag _ (by simp only [phi,if_pos hi'];simp [P.len,hi'])]
    exact yj ho _ (JA (jd hi))
  have hNm:∀ i,i < m→N (phi l m next i):=fun i hi=>by
    obtain ⟨o,ho⟩:=Option.isSome_iff_exists.1 (D.all0 i hi)
    exact R.key _ _ (hmem i o ho)
  have hth:=Ks (φ:=phi l m next) (n:=m+d) (h:=h) (fun i j _ _ e=>JB P i j e) (fun p hp=>(D.k1 p hp).1) hmem T
  rw [←hth]
  have hnew:∀ i,m≤i→i < m+d→phi l m next i∈List.range' next d:=fun i h1 h2=>by
    rw [List.mem_range'_1];simp only [phi,if_neg (show ¬ i < m by omega)];omega
  exact frame (φ:=phi l m next) (N':=jL N (List.range' next d)) D.det D.k0 D.ka D.k1 D.kr D.all (fun i j _ _ e=>JB P i j e) hmem hNm (fun i h1 h2=>hex _ (hnew i h1 h2)) (fun j hj=>.inl hj)
    (fun i hi=>by
      rcases Nat.lt_or_ge i m with h1 | h1
      · exact .inl (hNm i h1)
      · exact .inr (hnew i h1 hi)) R hv (by omega)
theorem DCall.det {C:Ctx} {f m next:Nat} {args:List AV} {heap objs ups:List (Nat×Zah)} {l:List Nat} {r:AV} {KD:List Nat→AV→List (Nat×Zah)→Prop} (hc:CallP C f args l m next objs r ups 0) (hp:Zu l m next=true) (ho:xF heap l=some objs)
    (hK:KD l r ups):DCall C f args heap KD:=⟨l,_,_,LCall.det hc hp ho,hK⟩
def zc {α:Type} (f:α→List IV) (l:List α):List (List AV):=l.map fun x=>zm (f x)
theorem zco (φ:Nat→Nat) (r:List IV):vV φ (zm r)=zm r:=by
  simp only [vV,zm,List.map_map]
  exact List.map_congr_left fun x _=>rfl
theorem Ku {α:Type} (φ:Nat→Nat) (f:α→List IV) (l:List α):(zc f l).map (vV φ)=zc f l:=by
  simp only [zc,List.map_map]
  exact List.map_congr_left fun x _=>zco φ (f x)
theorem rhN {φ:Nat→Nat}:rnH φ []=[]:=rfl
theorem rhR {φ:Nat→Nat} {k:Nat} {o:Zah} {r s:List (Nat×Zah)} (h:rnH φ r=s):rnH φ ((k,o)::r)=(φ k,zV φ o)::s:=by rw [←h];rfl
theorem rhI {φ:Nat→Nat} {k sz:Nat} {α:Type} {f:α→List IV} {l:List α} {r s:List (Nat×Zah)} (h:rnH φ r=s):rnH φ ((k,.rows sz (zc f l))::r)=(φ k,.rows sz (zc f l))::s:=by
  rw [←h];simp only [rnH,zV,Ku]
theorem Zh {α:Type} (m sz:Nat) (f:α→List IV) (l:List α):zK m (.rows sz (zc f l)):=by
  simp only [zK,zc]
  intro row hr x hx
  obtain ⟨y,_,rfl⟩:=List.mem_map.1 hr
  obtain ⟨z,_,rfl⟩:=List.mem_map.1 hx
  rfl
def zn {α β:Type} (kf:α→IV) (vf:β→IV) (es:List (α×β)):List (IV×AV):=es.map fun e=>(kf e.1,.imm (vf e.2))
theorem Kv {α β:Type} (φ:Nat→Nat) (kf:α→IV) (vf:β→IV) (es:List (α×β)):(zn kf vf es).map (zcn φ)=zn kf vf es:=by
  simp only [zn,List.map_map]
  exact List.map_congr_left fun x _=>rfl
theorem rhM {φ:Nat→Nat} {k:Nat} {α β:Type} {kf:α→IV} {vf:β→IV} {es:List (α×β)} {r s:List (Nat×Zah)} (h:rnH φ r=s):rnH φ ((k,.map (zn kf vf es))::r)=(φ k,.map (zn kf vf es))::s:=by
  rw [←h];simp only [rnH,zV,Kv]
theorem zaX {α β:Type} (m:Nat) (kf:α→IV) (vf:β→IV) (es:List (α×β)):zK m (.map (zn kf vf es)):=by
  simp only [zK,zn]
  intro e he
  obtain ⟨y,_,rfl⟩:=List.mem_map.1 he
  rfl
theorem zfl {h0 h:Nat→Option Zah} (hs:∀ i o,h0 i=some o→h i=some o):∀ (d:Nat) (x:AV) (y:IV),zC h0 d x=some y→zC h d x=some y:=by
  have lst:∀ {β γ:Type} {f f':β→Option γ},(∀ x y,f x=some y→f' x=some y)→∀ (l:List β) (r:List γ),mapO f l=some r→mapO f' l=some r:=by
    intro β γ f f' hf l
    induction l with
    | nil=>intro r h;exact h
    | cons a l ih=>
      intro r h
      simp only [mapO] at h ⊢
      split at h
      · rename_i b hb
        split at h
        · rename_i bs hbs
          cases h
          rw [hf _ _ hb]
          simp only
          rw [ih _ hbs]
        · cases h
      · cases h
  intro d
  induction d with
  | zero=>intro x y h;cases h
  | succ d ih=>
    intro x y h
    cases x<;>simp only [zC] at h ⊢ <;> first | exact h | skip
    case Zam id off len=>
      split at h
      · rename_i sz rows ho
        rw [hs _ _ ho]
        simp only
        split at h
        · rename_i hle
          rw [if_pos hle]
          rw [Option.map_eq_some_iff] at h ⊢
          obtain ⟨r,h1,h2⟩:=h
          exact ⟨r,lst (fun row ys hrow=>lst (fun x y hx=>ih x y hx) row ys hrow) _ _ h1,h2⟩
        · cases h
      · cases h
    case agg cs=>
      rw [Option.map_eq_some_iff] at h ⊢
      obtain ⟨r,h1,h2⟩:=h
      exact ⟨r,lst (fun x y hx=>ih x y hx) _ _ h1,h2⟩
    case tuple cs=>
      rw [Option.map_eq_some_iff] at h ⊢
      obtain ⟨r,h1,h2⟩:=h
      exact ⟨r,lst (fun x y hx=>ih x y hx) _ _ h1,h2⟩
theorem Z7 {h0 h:Nat→Option Zah} (hs:∀ i o,h0 i=some o→h i=some o) {d:Nat}:∀ {args:List AV} {ivs:List IV},mapO (zC h0 d) args=some ivs→mapO (zC h d) args=some ivs
  | [],ivs,h=>h
  | a::l,ivs,h=>by
    simp only [mapO] at h ⊢
    split at h
    · rename_i b hb
      split at h
      · rename_i bs hbs
        cases h
        rw [zfl hs d _ _ hb]
        simp only
        rw [Z7 hs hbs]
      · cases h
    · cases h
theorem Z8 {heap:List (Nat×Zah)} {l:List Nat} {objs:List (Nat×Zah)} (h:xF heap l=some objs) (i:Nat) (o:Zah) (ho:za objs i=some o):za heap i=some o:=yj h _ (jd ho)
theorem LCall.snapS {C:Ctx} {f d:Nat} {args:List AV} {heap objs:List (Nat×Zah)} {l:List Nat} {ivs:List IV} {r:IV} (hp:APure C f ivs r) (ho:xF heap l=some objs) (hl:∀ p∈objs,p.1∈l) (hx:mapO (zC (za objs) d) args=some ivs) (hf:xS r=true):LCall C f args (za heap) l (.imm r) [] []:=by
  refine ⟨hp.1,fun g h N w vs hag hex R hv => ?_⟩
  have hsub:∀ i o,za objs i=some o→h i=some o:=fun i o hi=>by
    rw [hag i (hl _ (jd hi))];exact Z8 ho i o hi
  have hx':mapO (zC h d) args=some ivs:=Z7 hsub hx
  exact (LCall.snap (h0:=h) hp hx' hf).2 g h N w vs (fun _ _=>rfl) hex R hv
theorem VZ {heap:List (Nat×Zah)}:∀ {l:List Nat} {objs:List (Nat×Zah)},xF heap l=some objs→∀ p∈objs,p.1∈l
  | [],objs,h=>by cases h;intro p hp;cases hp
  | i::l,objs,h=>by
    simp only [xF] at h
    split at h
    · cases h
    · rename_i o ho
      split at h
      · rename_i r hr
        cases h
        intro p hp
        rcases List.mem_cons.1 hp with rfl | hp
        · simp
        · exact List.mem_cons_of_mem _ (VZ hr p hp)
      · cases h
section
inductive Orc where
  | g (b:Bool)
  | n (k:Int)
  | r (row:List IV)
  | v (x:IV)
  | w (ids:List Nat) (ivs:List IV) (x:IV)
  | s (rows:List (List IV))
  | k (row:Nat)
  | ar (row:List AV)
  | aw (row:List AV) (rows:List (List AV))
  | m (n:Nat) (rows:List (List AV))
  | a (rows:List (List IV)) (n:Nat)
  | b (rows:List (List AV)) (n:Nat)
  | c (l:List Nat) (m:Nat) (r:AV) (ups:List (Nat×Zah)) (d:Nat)
  | l (x:AV) (b:Bool)
  | u (es:List (IV×AV))
def ziy (rows:List (List IV)) (n:Int) (row:List IV):Prop:=0≤n∧rows[n.toNat]?=some row
def Kw (rows:List (List IV)) (k:Int):Prop:=(rows.length:Int)=k
def ziz (rows:List (List IV)) (sz:Nat) (a b:Int) (r:List (List IV)):Prop:=0≤a∧a≤b∧b≤(rows.length:Int)∧(rows.all fun row=>row.length == sz)=true∧(rows.take b.toNat).drop a.toNat=r
def Vg (op:BinOp) (a b r:IV):Prop:=vO op a b=some r
def JC (n:Int) (off len row:Nat):Prop:=0≤n∧n < (len:Int)∧off+n.toNat=row
def Vh (rows:List (List AV)) (r:Nat) (row:List AV):Prop:=rows[r]?=some row
def ziA (rows:List (List AV)) (r:Nat) (row new:List AV) (rows':List (List AV)):Prop:=rows[r]?=some row∧rows.set r new=rows'
def zfm (n:Int) (by_:Nat) (zero:List AV) (k:Nat) (rows:List (List AV)):Prop:=(0≤n∧n < 2 ^ 31∧n*by_≤140737488355328)∧n.toNat=k∧List.replicate k zero=rows
def zgI (sz:Nat) (rows new rows':List (List AV)) (len:Nat):Prop:=len=rows.length∧new.length=len∧(new.all fun row=>row.length == sz)=true∧new=rows'
def zfn (sz by_:Nat) (old new rows:List (List IV)) (len k:Nat):Prop:=(new.all fun row=>row.length == sz)=true∧old.length=len∧(len+new.length)*by_≤140737488355328∧old++new=rows∧len+new.length=k
def zgJ (sz by_:Nat) (old new rows:List (List AV)) (len k:Nat):Prop:=(new.all fun row=>row.length == sz)=true∧len=old.length∧(len+new.length)*by_≤140737488355328∧old++new=rows∧len+new.length=k
def zgK (str:Bool) (zero:AV) (k:IV) (es:List (IV×AV)) (x:AV) (b:Bool):Prop:=(vP str k&&xQ k es)=true∧((qz k es=some x∧b=true)∨(qz k es=none∧zero=x∧b=false))
def ziB (str:Bool) (k:IV) (v:AV) (es es':List (IV×AV)):Prop:=(vP str k&&xQ k es)=true∧qM k v es=es'
def zcp (args:List AV) (objs:List (Nat×Zah)) (ivs:List IV):Prop:=mapO (zC (za objs) 5) args=some ivs
def inD (D:List Nat):Opd→Bool
  | .t n=>D.contains n
  | .c _=>true
  | .m _ _=>false
abbrev xx:=Option (AV×List (Nat×Zah)×List Nat×List Orc×List Prop×Nat)
def jl (op:AOp) (orc:List Orc) (st:St):xx:=match evalOp op (zd st.env) (za st.heap) st.next with
  | some (r,ups)=>some (r,ups,zk op (zd st.env),orc,[],0)
  | none=>none
def zgL (op:AOp) (orc:List Orc) (st:St) (lit:Bool) (a b:AV):AV→xx
  | .imm (.bool x)=>match lit with
    | true=>match x with
      | true=>some (a,[],zk op (zd st.env),orc,[],0)
      | false=>some (b,[],zk op (zd st.env),orc,[],0)
    | false=>match orc with
      | .g true::o=>some (a,[],zk op (zd st.env),o,[x=true],0)
      | .g false::o=>some (b,[],zk op (zd st.env),o,[x=false],0)
      | _=>none
  | _=>none
def ziC (op:AOp) (orc:List Orc) (st:St):AV→xx
  | .imm (.slice rows) | .Zav _ rows=>match orc with
    | .n k::o=>some (.imm (.int .i64 k),[],zk op (zd st.env),o,[Kw rows k],0)
    | _=>none
  | _=>jl op orc st
def ziD (op:AOp) (sz:Nat) (orc:List Orc) (st:St) (i:AV):AV→xx
  | .imm (.slice rows) | .Zav _ rows=>match i with
    | .imm (.int _ n)=>match orc with
      | .r row::o=>if row.length=sz then some (.eptr row,[],zk op (zd st.env),o,[ziy rows n row],0) else none
      | _=>none
    | _=>none
  | .Zam j off len=>match orc with
    | .k row::o=>match i with
      | .imm (.int _ n)=>match za st.heap j with
        | some (.rows sz' _)=>if sz'=sz then some (.ptr j row 0,[],zk op (zd st.env),o,[JC n off len row],0) else none
        | _=>none
      | _=>none
    | _=>jl op orc st
  | _=>jl op orc st
def zgM (op:AOp) (len sz:Nat) (orc:List Orc) (st:St) (i x:AV):xx:=match orc with
  | .k row::o=>match x with
    | .ptr j 0 0=>match i with
      | .imm (.int _ n)=>match za st.heap j with
        | some (.rows sz' _)=>if sz'=sz then some (.ptr j row 0,[],zk op (zd st.env),o,[JC n 0 len row],0) else none
        | _=>none
      | _=>none
    | _=>none
  | _=>jl op orc st
def ziE (op:AOp) (bop:BinOp) (orc:List Orc) (st:St) (x y:AV):xx:=match bop with
  | .quo | .rem | .shl | .shr=>match x,y with
    | .imm a,.imm b=>match orc with
      | .v r::o=>some (.imm r,[],zk op (zd st.env),o,[Vg bop a b r],0)
      | _=>none
    | _,_=>none
  | _=>jl op orc st
def zcq (st:St) (dflt:Int):Option Opd→Option Int
  | none=>some dflt
  | some y=>match zd st.env y with
    | .imm (.int _ n)=>some n
    | _=>none
def ziF (op:AOp) (sz:Nat) (orc:List Orc) (st:St) (lo hi:Option Opd):AV→xx
  | .imm (.slice rows)=>match zcq st 0 lo,zcq st (rows.length:Int) hi,orc with
    | some a,some b,.s r::o=>some (.imm (.slice r),[],zk op (zd st.env),o,[ziz rows sz a b r],0)
    | _,_,_=>none
  | _=>none
def zcr (C:Ctx) (orc:List Orc) (st:St) (args:List AV):AV→xx
  | .func f first caps=>match orc with
    | .v x::o=>match mapO (zC (za st.heap) 5) (first++args++caps) with
      | some ivs=>match (first++args++caps).all (xo 5) with
        | true=>some (.imm x,[],[],o,[APure C f ivs x],0)
        | false=>none
      | none=>none
    | .w ids ivs x::o=>match xF st.heap ids with
      | some objs=>match xS x with
        | true=>some (.imm x,[],ids,o,[APure C f ivs x,zcp (first++args++caps) objs ivs],0)
        | false=>none
      | none=>none
    | .c l m r ups d::o=>match xF st.heap l with
      | some objs=>match Zu l m st.next with
        | true=>some (r,ups,l,o,[CallP C f (first++args++caps) l m st.next objs r ups d],d)
        | false=>none
      | none=>none
    | _=>none
  | _=>none
def zgN (op:AOp) (agg:Bool) (n:Nat) (orc:List Orc) (st:St) (x:AV):xx:=match orc with
  | .ar row::o=>match x with
    | .ptr i r f=>match za st.heap i with
      | some (.rows _ rows)=>match agg with
        | true=>if f+n≤row.length then some (.agg ((row.drop f).take n),[],zk op (zd st.env),o,[Vh rows r row],0) else none
        | false=>match row[f]? with
          | some c=>some (c,[],zk op (zd st.env),o,[Vh rows r row],0)
          | none=>none
      | _=>none
    | _=>none
  | _=>jl op orc st
def zdT (op:AOp) (n:Nat) (orc:List Orc) (st:St) (x:AV) (v:Option (List AV)):xx:=match orc with
  | .aw row rows'::o=>match x with
    | .ptr i r f=>match v with
      | some cs=>match za st.heap i with
        | some (.rows sz rows)=>if cs.length=n∧f+n≤row.length then some (.undef,[(i,.rows sz rows')],zk op (zd st.env),o,[ziA rows r row (qY row f cs) rows'],0) else none
        | _=>none
      | none=>none
    | _=>none
  | _=>jl op orc st
def ziG (op:AOp) (sz by_:Nat) (zero:List AV) (orc:List Orc) (st:St) (x:AV):xx:=match orc with
  | .m k rows::o=>match x with
    | .imm (.int .i64 n)=>some (.Zam st.next 0 k,[(st.next,.rows sz rows)],zk op (zd st.env),o,[zfm n by_ zero k rows],0)
    | _=>none
  | _=>jl op orc st
def ziH (op:AOp) (sz by_:Nat) (orc:List Orc) (st:St) (x:AV) (s:AV):xx:=match orc with
  | .a rows k::o=>match xv (za st.heap) x with
    | some new=>match s with
      | .nil=>some (.Zav st.next rows,[(st.next,.tip sz k)],zk op (zd st.env),o,[zfn sz by_ [] new rows 0 k],0)
      | .Zav i old=>match za st.heap i with
        | some (.tip sz' len)=>if sz'=sz then some (.Zav i rows,[(i,.tip sz k)],zk op (zd st.env),o,[zfn sz by_ old new rows len k],0) else none
        | _=>none
      | _=>none
    | none=>none
  | .b rows k::o=>match jO (za st.heap) x with
    | some new=>match s with
      | .Zam i off len=>match za st.heap i with
        | some (.rows sz' old)=>if sz'=sz∧off=0 then some (.Zam st.next 0 k,[(st.next,.rows sz rows),(i,.dead)],zk op (zd st.env),o,[zgJ sz by_ old new rows len k],0) else none
        | _=>none
      | _=>none
    | none=>none
  | _=>jl op orc st
def zgO (op:AOp) (str:Bool) (zero:AV) (ok:Bool) (orc:List Orc) (st:St) (k m:AV):xx:=match orc with
  | .l x b::o=>match m,k with
    | .map i,.imm k=>match za st.heap i with
      | some (.map es)=>some (match ok with | true=>.tuple [x,.imm (.bool b)] | false=>x,[],zk op (zd st.env),o,[zgK str zero k es x b],0)
      | _=>none
    | _,_=>none
  | _=>jl op orc st
def ziI (op:AOp) (str:Bool) (orc:List Orc) (st:St) (v k m:AV):xx:=match orc with
  | .u es'::o=>match m,k with
    | .map i,.imm k=>match za st.heap i with
      | some (.map es)=>some (.undef,[(i,.map es')],zk op (zd st.env),o,[ziB str k v es es'],0)
      | _=>none
    | _,_=>none
  | _=>jl op orc st
def zgP (op:AOp) (sz:Nat) (orc:List Orc) (st:St) (x:AV) (d:AV):xx:=match orc with
  | .b rows' _::o=>match jO (za st.heap) x with
    | some new=>match d with
      | .Zam i 0 len=>match za st.heap i with
        | some (.rows sz' rows)=>if sz'=sz then some (.imm (.int .i64 (len:Int)),[(i,.rows sz rows')],zk op (zd st.env),o,[zgI sz rows new rows' len],0) else none
        | _=>none
      | _=>none
    | none=>none
  | _=>jl op orc st
def ziJ (op:AOp) (len sz:Nat) (orc:List Orc) (st:St) (i x:AV):xx:=match orc with
  | .k row::o=>match x with
    | .agg cs=>match i with
      | .imm (.int _ n)=>match cs[row]? with
        | some c=>if sz=1 then some (c,[],zk op (zd st.env),o,[JC n 0 len row],0) else none
        | none=>none
      | _=>none
    | _=>none
  | _=>jl op orc st
def opX (C:Ctx) (op:AOp) (orc:List Orc) (D:List Nat) (st:St):xx:=match op with
  | .pick c a b=>zgL op orc st (inD D c) (zd st.env a) (zd st.env b) (zd st.env c)
  | .len x=>ziC op orc st (zd st.env x)
  | .idx sz x i=>ziD op sz orc st (zd st.env i) (zd st.env x)
  | .idxa len sz x i=>zgM op len sz orc st (zd st.env i) (zd st.env x)
  | .bin bop x y=>ziE op bop orc st (zd st.env x) (zd st.env y)
  | .slc sz x lo hi=>ziF op sz orc st lo hi (zd st.env x)
  | .call f args=>zcr C orc st (args.map (zd st.env)) (zd st.env f)
  | .load agg n x=>zgN op agg n orc st (zd st.env x)
  | .store n x v=>zdT op n orc st (zd st.env x) (cellsOf (zd st.env v))
  | .mks sz by_ zero n=>ziG op sz by_ zero orc st (zd st.env n)
  | .app sz by_ s x=>ziH op sz by_ orc st (zd st.env x) (zd st.env s)
  | .look str zero ok m k=>zgO op str zero ok orc st (zd st.env k) (zd st.env m)
  | .upd str m k v=>ziI op str orc st (zd st.env v) (zd st.env k) (zd st.env m)
  | .copy sz d x=>zgP op sz orc st (zd st.env x) (zd st.env d)
  | .ixa len sz x i=>ziJ op len sz orc st (zd st.env i) (zd st.env x)
  | op=>jl op orc st
def Wb (gd:Option (Nat×Bool)) (orc:List Orc) (D:List Nat) (st:St):Option (Bool×List Orc×List Prop×List Nat×St):=match gd with
  | none=>some (true,orc,[],D,st)
  | some (t,want)=>match (za st.env t).getD .top with
    | .undef=>some (false,orc,[],D,st)
    | .imm (.bool b)=>match D.contains t with
      | true=>match b with
        | true=>some (want,orc,[],D,st)
        | false=>some (!want,orc,[],D,st)
      | false=>match orc with
        | .g true::o=>some (want,o,[b=true],t::D,{st with env:=zo st.env t (.imm (.bool true))})
        | .g false::o=>some (!want,o,[b=false],t::D,{st with env:=zo st.env t (.imm (.bool false))})
        | _=>none
    | _=>none
def St.afterD (st:St) (dst:Option Nat) (r:AV) (ups:List (Nat×Zah)) (d:Nat):St:=
  St.put {st with heap:=zF ups st.heap,next:=st.next+d+1} dst r
def YM (D:List Nat):Option Nat→List Nat
  | some d=>D.filter (· != d)
  | none=>D
section
variable {C:Ctx}
theorem Z9 {α:Type}:∀ {l:List (Nat×α)} {t:Nat} {x:α},za l t=some x→zo l t x=l
  | [],t,x,h=>by cases h
  | (k,v)::r,t,x,h=>by
    simp only [za] at h
    simp only [zo]
    split at h
    · rename_i e;subst e;cases h;simp
    · rename_i e;rw [if_neg e,Z9 h]
theorem qe {op:AOp} {orc o':List Orc} {st:St} {r:AV} {ups:List (Nat×Zah)} {rd:List Nat} {ps:List Prop} {d:Nat} (h:jl op orc st=some (r,ups,rd,o',ps,d)) :
    evalOp op (zd st.env) (za st.heap) st.next=some (r,ups)∧rd=zk op (zd st.env)∧d=0:=by
  unfold jl at h
  split at h
  · rename_i e;cases h;exact ⟨e,rfl,rfl⟩
  · cases h
def isCall:AOp→Bool
  | .call _ _=>true
  | _=>false
theorem zcs {st:St} {sz id:Nat} {x:Opd} {lo hi:Option Opd} {rows:List (List IV)} {h:Nat→Option Zah} (hx:zd st.env x=.imm (.slice rows)):evalOp (.slc sz x lo hi) (zd st.env) h id=match zcq st 0 lo,zcq st (rows.length:Int) hi with
    | some a,some b=>if 0≤a∧a≤b∧b≤(rows.length:Int)∧(rows.all fun row=>row.length == sz)=true then some (.imm (.slice ((rows.take b.toNat).drop a.toNat)),[]) else none
    | _,_=>none:=by
  simp only [evalOp,hx]
  cases lo<;>cases hi<;>rfl
theorem Kx {op:AOp} {orc o':List Orc} {D:List Nat} {st:St} {r:AV} {ups:List (Nat×Zah)} {rd:List Nat} {ps:List Prop} {d:Nat} (hc:isCall op=false) (h:opX C op orc D st=some (r,ups,rd,o',ps,d)) (hp:AllP ps) :
    evalOp op (zd st.env) (za st.heap) st.next=some (r,ups)∧rd=zk op (zd st.env)∧d=0:=by
  cases op
  case call=>cases hc
  case pick c a b=>
    simp only [opX] at h
    unfold zgL at h
    simp only [evalOp]
    split at h
    · rename_i x hx
      split at h
      · split at h<;>(cases h;rw [hx];exact ⟨rfl,rfl,rfl⟩)
      · split at h
        · cases h;have:=hp.one;subst this;rw [hx];exact ⟨rfl,rfl,rfl⟩
        · cases h;have:=hp.one;subst this;rw [hx];exact ⟨rfl,rfl,rfl⟩
        · cases h
    · cases h
  case len x=>
    simp only [opX] at h
    unfold ziC at h
    split at h
    · rename_i rows hx
      split at h
      · cases h
        have:=hp.one
        refine ⟨?_,rfl,rfl⟩
        simp only [evalOp,wd,hx]
        unfold Kw at this
        rw [this]
      · cases h
    · rename_i rows hx
      split at h
      · cases h
        have:=hp.one
        refine ⟨?_,rfl,rfl⟩
        simp only [evalOp,wd,hx]
        unfold Kw at this
        rw [this]
      · cases h
    · exact qe h
  case idx sz x i=>
    simp only [opX] at h
    unfold ziD at h
    split at h
    · rename_i rows hx
      split at h
      · rename_i k n hi
        split at h
        · split at h
          · rename_i hl
            cases h
            have:=hp.one
            refine ⟨?_,rfl,rfl⟩
            simp only [evalOp,hx,hi,if_pos this.1,this.2,if_pos hl]
          · cases h
        · cases h
      · cases h
    · rename_i rows hx
      split at h
      · rename_i k n hi
        split at h
        · split at h
          · rename_i hl
            cases h
            have:=hp.one
            refine ⟨?_,rfl,rfl⟩
            simp only [evalOp,hx,hi,if_pos this.1,this.2,if_pos hl]
          · cases h
        · cases h
      · cases h
    · rename_i j off len hx
      split at h
      · split at h
        · rename_i k n hi
          split at h
          · rename_i sz' rows ho
            split at h
            · rename_i hsz
              cases h
              obtain ⟨h1,h2,h3⟩:=hp.one
              refine ⟨?_,rfl,rfl⟩
              simp only [evalOp,hx,hi,ho]
              rw [if_pos ⟨hsz,h1,h2⟩,h3]
            · cases h
          · cases h
        · cases h
      · exact qe h
    · exact qe h
  case idxa len sz x i=>
    simp only [opX] at h
    unfold zgM at h
    split at h
    · split at h
      · rename_i j hx
        split at h
        · rename_i k n hi
          split at h
          · rename_i sz' rows ho
            split at h
            · rename_i hsz
              cases h
              obtain ⟨h1,h2,h3⟩:=hp.one
              refine ⟨?_,rfl,rfl⟩
              simp only [evalOp,hx,hi,ho]
              rw [if_pos ⟨hsz,h1,h2⟩,←h3,Nat.zero_add]
            · cases h
          · cases h
        · cases h
      · cases h
    · exact qe h
  case bin bop x y=>
    simp only [opX] at h
    unfold ziE at h
    split at h
    all_goals first
      | exact qe h
      | skip
    all_goals
      split at h
      · rename_i a b hx hy
        split at h
        · cases h
          have:=hp.one
          unfold Vg at this
          refine ⟨?_,rfl,rfl⟩
          simp only [evalOp,hx,hy,this,Option.map_some]
        · cases h
      · cases h
  case slc sz x lo hi=>
    simp only [opX] at h
    unfold ziF at h
    split at h
    · rename_i rows hx
      split at h
      · rename_i a b r' o ha hb
        cases h
        obtain ⟨h1,h2,h3,h4,h5⟩:=hp.one
        refine ⟨?_,rfl,rfl⟩
        rw [zcs hx,ha,hb]
        simp only
        rw [if_pos ⟨h1,h2,h3,h4⟩,h5]
      · cases h
    · cases h
  case load agg n x=>
    simp only [opX] at h
    unfold zgN at h
    split at h
    · split at h
      · rename_i i rw_ f hx
        split at h
        · rename_i sz rows ho
          split at h
          · split at h
            · rename_i hle
              cases h
              have h1:=hp.one
              unfold Vh at h1
              refine ⟨?_,rfl,rfl⟩
              simp only [evalOp,hx,ho,h1,if_true]
              rw [if_pos hle]
            · cases h
          · split at h
            · rename_i c hcell
              cases h
              have h1:=hp.one
              unfold Vh at h1
              refine ⟨?_,rfl,rfl⟩
              simp only [evalOp,hx,ho,h1,hcell,Option.map_some,Bool.false_eq_true,if_false]
            · cases h
        · cases h
      · cases h
    · exact qe h
  case store n x v=>
    simp only [opX] at h
    unfold zdT at h
    split at h
    · split at h
      · rename_i i rw_ f hx
        split at h
        · rename_i cs hcs
          split at h
          · rename_i sz rows ho
            split at h
            · rename_i hle
              cases h
              obtain ⟨h1,h2⟩:=hp.one
              refine ⟨?_,rfl,rfl⟩
              simp only [evalOp,hx,hcs,ho,h1]
              rw [if_pos hle,h2]
            · cases h
          · cases h
        · cases h
      · cases h
    · exact qe h
  case mks sz by_ zero n=>
    simp only [opX] at h
    unfold ziG at h
    split at h
    · split at h
      · rename_i k rows o n' hx
        cases h
        obtain ⟨h1,h2,h3⟩:=hp.one
        refine ⟨?_,rfl,rfl⟩
        simp only [evalOp,hx]
        rw [if_pos h1,h2,h3]
      · cases h
    · exact qe h
  case app sz by_ s x=>
    simp only [opX] at h
    unfold ziH at h
    split at h
    · split at h
      · rename_i new hnew
        split at h
        · rename_i hs
          cases h
          obtain ⟨h1,h2,h3,h4,h5⟩:=hp.one
          refine ⟨?_,rfl,rfl⟩
          simp only [evalOp,hs,Xk,hnew,h1]
          simp only [List.nil_append] at h4
          subst h4
          simp only [Nat.zero_add] at h3 h5
          subst h5
          simp [h3]
        · rename_i i old hs
          split at h
          · rename_i sz' len ho
            split at h
            · rename_i hsz
              cases h
              obtain ⟨h1,h2,h3,h4,h5⟩:=hp.one
              refine ⟨?_,rfl,rfl⟩
              simp only [evalOp,hs,Xk,hnew,h1,ho]
              subst h4 h5
              simp [hsz,h2,h3]
            · cases h
          · cases h
        · cases h
      · cases h
    · split at h
      · rename_i new hnew
        split at h
        · rename_i i off len hs
          split at h
          · rename_i sz' old ho
            split at h
            · rename_i hsz
              cases h
              obtain ⟨h1,h2,h3,h4,h5⟩:=hp.one
              refine ⟨?_,rfl,rfl⟩
              simp only [evalOp,hs,Xl,hnew,h1,ho]
              simp only [ZaI,Bool.false_eq_true,if_false]
              rw [if_pos ⟨hsz.1,hsz.2,h2,h3⟩,h4,h5]
            · cases h
          · cases h
        · cases h
      · cases h
    · exact qe h
  case look str zero ok m k=>
    simp only [opX] at h
    unfold zgO at h
    split at h
    · split at h
      · rename_i i kk hm hk
        split at h
        · rename_i es ho
          cases h
          obtain ⟨h1,h2⟩:=hp.one
          refine ⟨?_,rfl,rfl⟩
          simp only [evalOp,hm,hk,ho,h1,if_true]
          rcases h2 with ⟨h3,h4⟩ | ⟨h3,h4,h5⟩
          · rw [h3,h4];cases ok<;>rfl
          · rw [h3,h4,h5];cases ok<;>rfl
        · cases h
      · cases h
    · exact qe h
  case upd str m k v=>
    simp only [opX] at h
    unfold ziI at h
    split at h
    · split at h
      · rename_i i kk hm hk
        split at h
        · rename_i es ho
          cases h
          obtain ⟨h1,h2⟩:=hp.one
          refine ⟨?_,rfl,rfl⟩
          simp only [evalOp,hm,hk,ho,h1,if_true,h2]
        · cases h
      · cases h
    · exact qe h
  case copy sz d x=>
    simp only [opX] at h
    unfold zgP at h
    split at h
    · split at h
      · rename_i new hnew
        split at h
        · rename_i i len hd
          split at h
          · rename_i sz' rows ho
            split at h
            · rename_i hsz
              cases h
              obtain ⟨h1,h2,h3,h4⟩:=hp.one
              refine ⟨?_,rfl,rfl⟩
              simp only [evalOp,YI,hd,ho,hnew]
              rw [if_pos ⟨hsz,h1,h2,h3⟩,h4]
            · cases h
          · cases h
        · cases h
      · cases h
    · exact qe h
  case ixa len sz x i=>
    simp only [opX] at h
    unfold ziJ at h
    split at h
    · split at h
      · rename_i cs hx
        split at h
        · rename_i k n hi
          split at h
          · rename_i c hc
            split at h
            · rename_i hsz
              cases h
              obtain ⟨h1,h2,h3⟩:=hp.one
              refine ⟨?_,rfl,rfl⟩
              simp only [evalOp,hx,hi]
              rw [Nat.zero_add] at h3
              rw [if_pos ⟨hsz,h1,h2⟩,h3,hc]
              rfl
            · cases h
          · cases h
        · cases h
      · cases h
    · exact qe h
  all_goals exact qe h
theorem ziK {C:CtxY} {op:AOp} {orc o':List Orc} {D:List Nat} {st:St} {r:AV} {ups:List (Nat×Zah)} {rd:List Nat} {ps:List Prop} {d:Nat} {dst:Option Nat} {K:St→Prop} (h:opX C op orc D st=some (r,ups,rd,o',ps,d)) (hp:AllP ps) (hK:K (st.afterD dst r ups d)) :
    evOp C dst K st op:=by
  cases hc:isCall op
  · obtain ⟨e,_,rfl⟩:=Kx hc h hp
    cases op<;>first | (cases hc;done) | (simp only [evOp];rw [e];exact hK)
  · cases op<;>first | (cases hc;done) | skip
    rename_i f args
    simp only [opX] at h
    unfold zcr at h
    split at h
    · rename_i f' first caps hf
      simp only [evOp,hf]
      split at h
      · split at h
        · rename_i ivs hiv
          split at h
          · rename_i hm;cases h;exact ACall.pure (d:=5) hp.one hm hiv hK
          · cases h
        · cases h
      · split at h
        · rename_i objs ho
          split at h
          · rename_i hm
            cases h
            cases hp with
            | cons h1 h2=>exact ACall.snap (d:=5) h1 (Z7 (Z8 ho) h2.one) hm hK
          · cases h
        · cases h
      · split at h
        · rename_i objs ho
          split at h
          · rename_i hm
            cases h
            exact ACall.det hp.one hm ho hK
          · cases h
        · cases h
      · cases h
    · cases h
theorem Xc {gd:Option (Nat×Bool)} {orc o:List Orc} {D D':List Nat} {st st':St} {b:Bool} {ps:List Prop} (h:Wb gd orc D st=some (b,o,ps,D',st')) (hp:AllP ps):st'=st∧zT st.env gd=some b:=by
  unfold Wb at h
  split at h
  · cases h;exact ⟨rfl,rfl⟩
  · rename_i t want
    split at h
    · rename_i e;cases h;exact ⟨rfl,by simp only [zT,e]⟩
    · rename_i x e
      have hget:za st.env t=some (.imm (.bool x)):=by
        cases h1:za st.env t with
        | none=>rw [h1] at e;cases e
        | some y=>rw [h1] at e;simp only [Option.getD_some] at e;rw [e]
      split at h
      · split at h
        · cases h;exact ⟨rfl,by simp only [zT,e];cases b<;>rfl⟩
        · cases h;exact ⟨rfl,by simp only [zT,e];cases want<;>rfl⟩
      · split at h
        · cases h;have:=hp.one;subst this;exact ⟨by rw [Z9 hget],by simp only [zT,e];cases b<;>rfl⟩
        · cases h;have:=hp.one;subst this;exact ⟨by rw [Z9 hget],by simp only [zT,e];cases want<;>rfl⟩
        · cases h
    · cases h
theorem zhd {C:CtxY} {it:AItem} {st:St} {b:Bool} {K:St→Prop} (hg:zT st.env it.guard=some b) (h1:b=true→evOp C it.dst K st it.op) (h2:b=false→K (st.after it.dst .undef [])):QZ C it K st:=by
  unfold QZ
  cases hgd:it.guard with
  | none=>rw [hgd] at hg;simp only [zT,Option.some.injEq] at hg;exact h1 hg.symm
  | some p=>
    obtain ⟨t,want⟩:=p
    rw [hgd] at hg
    simp only [zT] at hg
    simp only [QY]
    split at hg
    · rename_i x e
      rw [e]
      simp only [Option.some.injEq] at hg
      simp only
      rw [hg]
      cases b
      · exact h2 rfl
      · exact h1 rfl
    · rename_i e
      rw [e]
      simp only [Option.some.injEq] at hg
      exact h2 hg.symm
    · cases hg
theorem zfo (ord:List Nat) (j:Nat) (W R:List (Nat×Nat)):wC ord j W R [] []=true:=by
  simp [wC]
end
theorem zfp {α:Type} (f:α→List IV) (l:List α):Kw (List.map f l) (l.length:Int):=by simp [Kw]
theorem zfq {α:Type} (f:α→List IV) {l:List α} {n:Int} {e:α} (h:ze l n=some e):ziy (List.map f l) n (f e):=by
  obtain ⟨h1,h2,_⟩:=zdQ h
  exact ⟨h1,by simp [h2]⟩
theorem Ky {α:Type} (f:α→List IV) (sz:Nat) (hf:∀ x,(f x).length=sz) {l e:List α} {a b:Int} (h:yx l a b=some e):ziz (List.map f l) sz a b (List.map f e):=by
  obtain ⟨h1,h2,h3,h4⟩:=zdR h
  exact ⟨h1,h2,by simpa using h3,by simp [hf],by rw [←h4];simp [List.map_take,List.map_drop]⟩
theorem Kz {k:IntKind} {a b e:Int} (h:wb k a b=some e):Vg .rem (.int k a) (.int k b) (.int k e):=by
  obtain ⟨h1,h2⟩:=zdS h
  simp [Vg,h1,h2]
section
variable {α β:Type}
def zl (len:Nat) (n:Int):Option Nat:=if 0≤n∧n < (len:Int) then some n.toNat else none
theorem zp {len k:Nat} {n:Int} (h:zl len n=some k):JC n 0 len k:=by
  unfold zl at h;split at h
  · rename_i hh;cases h;exact ⟨hh.1,hh.2,by omega⟩
  · cases h
theorem zP (f:α→List IV) {l:List α} {k:Nat} {e:α} (h:l[k]?=some e):Vh (zc f l) k (zm (f e)):=by
  unfold Vh zc;rw [List.getElem?_map,h];rfl
theorem zL (f:α→List IV) {l:List α} {k:Nat} {e:α} (e':α) (h:l[k]?=some e):ziA (zc f l) k (zm (f e)) (zm (f e')) (zc f (l.set k e')):=by
  refine ⟨zP f h,?_⟩
  simp only [zc,List.map_set]
theorem JD {l:List α} {k:Nat} {e:α} (e':α) (h:l[k]?=some e):(l.set k e')[k]?=some e':=by
  obtain ⟨hk,_⟩:=List.getElem?_eq_some_iff.1 h
  simp [hk]
def mkN (by_:Nat) (n:Int):Option Nat:=if 0≤n∧n < 2 ^ 31∧n*by_≤140737488355328 then some n.toNat else none
theorem xy (f:α→List IV) (z:α) {by_ k:Nat} {n:Int} (h:mkN by_ n=some k):zfm n by_ (zm (f z)) k (zc f (List.replicate k z)):=by
  unfold mkN at h;split at h
  · rename_i hh;cases h;exact ⟨hh,rfl,by simp [zc]⟩
  · cases h
theorem zdU (row:List AV) {by_ k:Nat} {n:Int} (h:mkN by_ n=some k):zfm n by_ row k (List.replicate k row):=by
  unfold mkN at h;split at h
  · rename_i hh;cases h;exact ⟨hh,rfl,rfl⟩
  · cases h
def xp (k:Nat) (d l:List α):Option (List α):=if k=d.length∧l.length=k then some l else none
theorem zct {k:Nat} {d l e:List α} (h:xp k d l=some e):k=d.length∧l.length=k∧e=l:=by
  unfold xp at h;split at h
  · rename_i hh;cases h;exact ⟨hh.1,hh.2,rfl⟩
  · cases h
theorem Q2 (f:α→List IV) (sz:Nat) (hf:∀ x,(f x).length=sz) {k:Nat} {d l e:List α} (h:xp k d l=some e):zgI sz (zc f d) (List.map (List.map AV.imm) (List.map f l)) (zc f e) k:=by
  obtain ⟨h1,h2,rfl⟩:=zct h
  refine ⟨by simpa [zc] using h1,by simpa using h2,by simp [hf],?_⟩
  simp only [zc,List.map_map];congr 1
def zR (by_:Nat) (l m:List α):Option (List α):=if (l.length+m.length)*by_≤140737488355328 then some (l++m) else none
theorem qv (f:α→List IV) (sz by_:Nat) (hf:∀ x,(f x).length=sz) {l m e:List α} (h:zR by_ l m=some e):zfn sz by_ (List.map f l) (List.map f m) (List.map f e) l.length e.length:=by
  unfold zR at h;split at h
  · rename_i hh;cases h;exact ⟨by simp [hf],by simp,by simpa using hh,by simp,by simp⟩
  · cases h
def xz (by_:Nat) (l m:List α):Option (List α):=if (l.length+m.length)*by_≤140737488355328 then some (l++m) else none
theorem wk (f:α→List IV) (sz by_:Nat) (hf:∀ x,(f x).length=sz) {l m e:List α} (h:xz by_ l m=some e):zgJ sz by_ (zc f l) (List.map (List.map AV.imm) (List.map f m)) (zc f e) l.length e.length:=by
  unfold xz at h;split at h
  · rename_i hh
    cases h
    refine ⟨by simp [hf],by simp [zc],by simpa using hh,?_,by simp⟩
    simp only [zc,List.map_append,List.map_map]
    congr 1
  · cases h
end
def IV.i64 (n:Int):IV:=.int .i64 n
theorem jS (args:List AV) (objs:List (Nat×Zah)) (ivs:List IV) (h:mapO (zC (za objs) 5) args=some ivs):zcp args objs ivs:=h
def Q3 (k k':IntKind) (a b:Int):Option Int:=if b < 0 then none else some (a.fdiv (2 ^ (min b.toNat k.bits)))
theorem zfr {k k':IntKind} {a b e:Int} (h:Q3 k k' a b=some e):Vg .shr (.int k a) (.int k' b) (.int k e):=by
  unfold Q3 at h
  split at h
  · cases h
  · rename_i hb;cases h;simp [Vg,hb]
def zr {α β:Type} [DecidableEq α] (k:α):List (α×β)→Option β
  | []=>none
  | (k',v)::r=>if k=k' then some v else zr k r
def qc {α β:Type} [DecidableEq α] (k:α) (v:β):List (α×β)→List (α×β)
  | []=>[(k,v)]
  | (k',v')::r=>if k=k' then (k,v)::r else (k',v')::qc k v r
theorem Wc (a b:ByteArray):(a == b)=decide (a=b):=by
  obtain ⟨a⟩:=a
  obtain ⟨b⟩:=b
  rw [Bool.eq_iff_iff,decide_eq_true_iff]
  show (a == b)=true↔_
  simp
theorem Wd {β:Type} (vf:β→IV) (k:ByteArray) (es:List (ByteArray×β)):xQ (.str k) (zn IV.str vf es)=true:=by
  simp [xQ,zn,xu]
theorem QD {β:Type} (vf:β→IV) (k:ByteArray):∀ es:List (ByteArray×β),qz (.str k) (zn IV.str vf es)=(zr k es).map fun v=>.imm (vf v)
  | []=>rfl
  | (k',v)::r=>by
    have ih:=QD vf k r
    simp only [zn,List.map_cons,qz,xu,zr] at ih ⊢
    by_cases e:k=k'
    · subst e;simp [Wc]
    · simp only [Wc,decide_eq_false e,if_neg e];exact ih
theorem Q4 {β:Type} (vf:β→IV) (k:ByteArray) (x:β):∀ es:List (ByteArray×β),qM (.str k) (.imm (vf x)) (zn IV.str vf es)=zn IV.str vf (qc k x es)
  | []=>rfl
  | (k',v)::r=>by
    have ih:=Q4 vf k x r
    simp only [zn,List.map_cons,qM,xu,qc] at ih ⊢
    by_cases e:k=k'
    · subst e;simp [Wc]
    · simp only [Wc,decide_eq_false e,if_neg e,List.map_cons];rw [ih]
theorem xG {β:Type} (vf:β→IV) (z:β) (k:ByteArray) (es:List (ByteArray×β)):zgK true (.imm (vf z)) (.str k) (zn IV.str vf es) (.imm (vf ((zr k es).getD z))) (zr k es).isSome:=by
  refine ⟨by rw [Wd];rfl,?_⟩
  rw [QD]
  cases zr k es with
  | none=>exact .inr ⟨rfl,rfl,rfl⟩
  | some v=>exact .inl ⟨rfl,rfl⟩
theorem wl {β:Type} (vf:β→IV) (k:ByteArray) (x:β) (es:List (ByteArray×β)):ziB true (.str k) (.imm (vf x)) (zn IV.str vf es) (zn IV.str vf (qc k x es)):=
  ⟨by rw [Wd];rfl,Q4 vf k x es⟩
theorem We {α:Type} (f:α→List IV) (h:Nat→Option Zah) (d:Nat):∀ l:List α,mapO (fun row:List AV=>mapO (zC h (d+1)) row) (zc f l)=some (l.map f)
  | []=>rfl
  | x::l=>by
    have ih:=We f h d l
    have h1:mapO (zC h (d+1)) (zm (f x))=some (f x):=by
      generalize f x=r
      induction r with
      | nil=>rfl
      | cons a r ih=>simp only [zm,List.map_cons,mapO,zC] at ih ⊢; rw [ih]
    simp only [zc,List.map_cons,mapO] at ih ⊢
    rw [h1];simp only;rw [ih]
theorem KB {α:Type} (f:α→List IV) (h:Nat→Option Zah) (d id sz:Nat) (l:List α) (ho:h id=some (.rows sz (zc f l))):zC h (d+2) (.Zam id 0 l.length)=some (.slice (l.map f)):=by
  show (match h id with
      | some (.rows _ rows)=>if 0+l.length≤rows.length then (mapO (fun row:List AV=>mapO (zC h (d+1)) row) ((rows.drop 0).take l.length)).map IV.slice else none
      | _=>none)=_
  rw [ho]
  simp only [List.drop_zero]
  rw [if_pos (by simp [zc]),List.take_of_length_le (by simp [zc]),We f h d l];rfl
end
end Go.Proofs.YtmoedieenlaegaaGreatDoor
