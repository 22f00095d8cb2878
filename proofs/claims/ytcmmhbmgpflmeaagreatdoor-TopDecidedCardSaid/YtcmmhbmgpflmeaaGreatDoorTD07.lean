/-
  Data of the program's types.
  The table of the library that the program reads: what is known of it while the program runs.
  The program's functions, by the numbers that plans have for them.
  From the readings of a row's arguments to the abstract machine's data: whatever plain data is handed in (numbers, truth values, texts, slices and structures of these) is data of the abstract machine, of its type; and a law that is proved of all such data is the row's contract.
  A law that holds of all plain data of its types is the row's contract: whatever the arguments, the call returns true, and each argument reads as it read before.
  From data of the abstract machine to typed data.
  From readings to the data of this program's types.
  Plain laws about loops, searches and elements of lists.
  Plain laws: what a computation returns, and loops that build lists.
  Plain laws: loops over lists, loops that set one place after the other, increasing lists.
  Attractors: the positions from which the others can force a breach in some number of moves; and the queue that finds these numbers.
-/
import Derived.Test.YtcmmhbmgpflmeaaGreatDoorTD06
import Derived.Test.YtcmmhbmgpflmeaaGreatDoorChecked
import Derived.Lib.ItoaMem
import Derived.Lib.LaidTab
import Derived.KernelRfl
import Derived.Test.YtcmmhbmgpflmeaaGreatDoorTD03
import Derived.ProofKit
import Derived.SizedLaws
import Derived.Carry
import Derived.OpenShut
import Derived.Test.YtcmmhbmgpflmeaaGreatDoorTD04
import Derived.Test.YtcmmhbmgpflmeaaGreatDoorTD05
open List renaming countP_cons_of_pos → ua, map → ub, countP_cons_of_neg → uc, getElem?_append_right → ud, getElem?_append_left → ue, getElem?_eq_getElem → uf, getElem?_eq_some_iff → uj, mem_append → uk, range → ul, mem_cons → un, all_append → uo, append_nil → uq, length_cons → ur, mem_append_left → ut, mem_cons_of_mem → uu, range_eq_range' → uv, pairwise_append → uw, mem_cons_self → uy, pairwise_cons → uz, nodup_append → uB, range'_succ → uC, find?_cons → uF, mapM_cons → uG, range' → uI
open Option renaming bind_eq_some_iff → ug, map_eq_some_iff → um, bind_eq_bind → ux, pure_def → uE, bind → uK
open Bool renaming and_eq_true → uh, not_eq_true' → uA
open Nat renaming zero_le → uD, lt_or_ge → uH, le_refl → uJ
open Array renaming getElem?_eq_some_iff → ui
namespace Go.Proofs.YtcmmhbmgpflmeaaGreatDoor
open Go.RowKit
set_option linter.unusedSimpArgs false
set_option linter.unusedVariables false
set_option maxRecDepth 100000
section
structure bN where
 num:Int
 den:Int
 deriving Inhabited,DecidableEq
def bN.row (x:bN):List IV:=[.int .i64 x.num,.int .i64 x.den]
def bN.iv (x:bN):IV:=.agg x.row
structure bp where
 name:ByteArray
 kind:Int
 base:Int
 factor:bN
 deriving Inhabited,DecidableEq
def bp.row (x:bp):List IV:=[.str x.name,.int .i64 x.kind,.int .i64 x.base,.int .i64 x.factor.num,.int .i64 x.factor.den]
def bp.iv (x:bp):IV:=.agg x.row
structure aV where
 kind:Int
 bW:Int
 cM:Int
 to:Int
 unit:Int
 gj:bN
 deriving Inhabited,DecidableEq
def aV.row (x:aV):List IV:=[.int .i64 x.kind,.int .i64 x.bW,.int .i64 x.cM,.int .i64 x.to,.int .i64 x.unit,.int .i64 x.gj.num,.int .i64 x.gj.den]
def aV.iv (x:aV):IV:=.agg x.row
structure b8 where
 clause:Int
 is:Int
 deriving Inhabited,DecidableEq
def b8.row (x:b8):List IV:=[.int .i64 x.clause,.int .i64 x.is]
def b8.iv (x:b8):IV:=.agg x.row
structure aL where
 kind:Int
 bW:Int
 act:Int
 need:Int
 start:List b8
 after:Int
 cX:Int
 bV:Bool
 final:Bool
 bH:Int
 resume:Int
 value:bN
 unit:Int
 to:Int
 bq:Bool
 deriving Inhabited,DecidableEq
def aL.row (x:aL):List IV:=[.int .i64 x.kind,.int .i64 x.bW,.int .i64 x.act,.int .i64 x.need,.slice (ub b8.row x.start),.int .i64 x.after,.int .i64 x.cX,.bool x.bV,.bool x.final,.int .i64 x.bH,.int .i64 x.resume,.int .i64 x.value.num,.int .i64 x.value.den,.int .i64 x.unit,.int .i64 x.to,.bool x.bq]
def aL.iv (x:aL):IV:=.agg x.row
structure ax where
 aN:Int
 aC:List Int
 bk:List bp
 aK:List aV
 aB:List aL
 aJ:Int
 off:List Int
 deriving Inhabited,DecidableEq
def ax.row (x:ax):List IV:=[.int .i64 x.aN,.slice (ub zb x.aC),.slice (ub bp.row x.bk),.slice (ub aV.row x.aK),.slice (ub aL.row x.aB),.int .i64 x.aJ,.slice (ub zb x.off)]
def ax.iv (x:ax):IV:=.agg x.row
structure aq where
 aH:Int
 left:Int
 got:Int
 bg:Int
 aT:Bool
 deriving Inhabited,DecidableEq
def aq.row (x:aq):List IV:=[.int .i64 x.aH,.int .i64 x.left,.int .i64 x.got,.int .i64 x.bg,.bool x.aT]
def aq.iv (x:aq):IV:=.agg x.row
structure bn where
 day:Int
 aC:List Int
 used:List Bool
 aM:List aq
 deriving Inhabited,DecidableEq
def bn.row (x:bn):List IV:=[.int .i64 x.day,.slice (ub zb x.aC),.slice (ub zh x.used),.slice (ub aq.row x.aM)]
def bn.iv (x:bn):IV:=.agg x.row
structure aA where
 state:bn
 own:Bool
 deriving Inhabited,DecidableEq
def aA.row (x:aA):List IV:=[.int .i64 x.state.day,.slice (ub zb x.state.aC),.slice (ub zh x.state.used),.slice (ub aq.row x.state.aM),.bool x.own]
def aA.iv (x:aA):IV:=.agg x.row
structure bA where
 step:Int
 to:Int
 deriving Inhabited,DecidableEq
def bA.row (x:bA):List IV:=[.int .i64 x.step,.int .i64 x.to]
def bA.iv (x:bA):IV:=.agg x.row
structure cF where
 zw:Int
 aR:List aA
 bO:List (List bA)
 deriving Inhabited,DecidableEq
def cF.row (x:cF):List IV:=[.int .i64 x.zw,.slice (ub aA.row x.aR),.slice (ub (q8 bA.row) x.bO)]
def cF.iv (x:cF):IV:=.agg x.row
structure cQ where
 safe:Bool
 move:Int
 wait:Int
 deriving Inhabited,DecidableEq
def cQ.row (x:cQ):List IV:=[.bool x.safe,.int .i64 x.move,.int .i64 x.wait]
def cQ.iv (x:cQ):IV:=.agg x.row
structure dh where
 aW:aA
 move:Int
 deriving Inhabited,DecidableEq
def dh.row (x:dh):List IV:=[.int .i64 x.aW.state.day,.slice (ub zb x.aW.state.aC),.slice (ub zh x.aW.state.used),.slice (ub aq.row x.aW.state.aM),.bool x.aW.own,.int .i64 x.move]
def dh.iv (x:dh):IV:=.agg x.row
structure eu where
 zw:Int
 af:List dh
 deriving Inhabited,DecidableEq
def eu.row (x:eu):List IV:=[.int .i64 x.zw,.slice (ub dh.row x.af)]
def eu.iv (x:eu):IV:=.agg x.row
structure cU where
 aW:aA
 bl:Int
 move:Int
 deriving Inhabited,DecidableEq
def cU.row (x:cU):List IV:=[.int .i64 x.aW.state.day,.slice (ub zb x.aW.state.aC),.slice (ub zh x.aW.state.used),.slice (ub aq.row x.aW.state.aM),.bool x.aW.own,.int .i64 x.bl,.int .i64 x.move]
def cU.iv (x:cU):IV:=.agg x.row
structure bP where
 zw:Int
 af:List cU
 deriving Inhabited,DecidableEq
def bP.row (x:bP):List IV:=[.int .i64 x.zw,.slice (ub cU.row x.af)]
def bP.iv (x:bP):IV:=.agg x.row
structure ez where
 s:eu
 deriving Inhabited,DecidableEq
def ez.row (x:ez):List IV:=[.int .i64 x.s.zw,.slice (ub dh.row x.s.af)]
def ez.iv (x:ez):IV:=.agg x.row
structure bQ where
 d:bP
 deriving Inhabited,DecidableEq
def bQ.row (x:bQ):List IV:=[.int .i64 x.d.zw,.slice (ub cU.row x.d.af)]
def bQ.iv (x:bQ):IV:=.agg x.row
structure ai where
 aH:Int
 from_:Int
 to:Int
 got:Int
 bg:Int
 deriving Inhabited,DecidableEq
def ai.row (x:ai):List IV:=[.int .i64 x.aH,.int .i64 x.from_,.int .i64 x.to,.int .i64 x.got,.int .i64 x.bg]
def ai.iv (x:ai):IV:=.agg x.row
structure aj where
 aJ:Int
 aT:Bool
 deriving Inhabited,DecidableEq
def aj.row (x:aj):List IV:=[.int .i64 x.aJ,.bool x.aT]
def aj.iv (x:aj):IV:=.agg x.row
attribute [simp] bN.row bp.row aV.row b8.row aL.row ax.row aq.row bn.row aA.row bA.row cF.row cQ.row dh.row eu.row cU.row bP.row ez.row bQ.row ai.row aj.row
end
end Go.Proofs.YtcmmhbmgpflmeaaGreatDoor
namespace Go.Proofs.YtcmmhbmgpflmeaaGreatDoor
open Go.RowKit
def wz : String := "internal/strconv.uint64pow10"
noncomputable def Ea:Aw where
 p w:=Lib.TabIs Tryz.prog w wz .u64 Lib.pow10Tab
 n:=(Tryz.prog.globalNamed wz).getD 0+1
 ok w w' h hp:=by
  unfold Lib.TabIs World.var? at *
  cases hg:Tryz.prog.globalNamed wz with
  | none=>rw [hg] at hp;cases hp
  | some g=>
   rw [hg] at hp
   simp only [aS] at hp ⊢
   have:=h g (by rw [hg];simp)
   rw [this];exact hp
theorem O8 {w:World} (h:Ea.p w):Ea.n≤w.heap.size:=by
 have h':w.var? Tryz.prog wz=some (Lib.pow10Tab.map fun z=>Value.int .u64 z).toArray:=h
 unfold World.var? at h'
 show (Tryz.prog.globalNamed wz).getD 0+1≤_
 cases hg:Tryz.prog.globalNamed wz with
 | none=>rw [hg] at h';cases h'
 | some g=>
  rw [hg] at h'
  simp only [aS] at h'
  split at h'
  ·rename_i h2
   have:=(ui.1 h2).1
   simp only [Option.getD_some];omega
  ·cases h'
end Go.Proofs.YtcmmhbmgpflmeaaGreatDoor
namespace Go.Proofs.YtcmmhbmgpflmeaaGreatDoor
open Go.RowKit
set_option linter.unusedSimpArgs false
set_option linter.unusedVariables false
set_option maxRecDepth 100000
noncomputable def C0:Ctx:=⟨Tryz.prog,[0,0,0,0,0,0,0,0,20,0,0,0,0,0,0,0,0,0,0,33,34,0,0,0,0,0,138,0,137,0,0,0,0,0,21,0,0,0,79,0,54,55,56,57,58,59,60,61,0,142,141,0,96,97,73,74,108,92,93,94,66,77,95,76,78,81,80,98,84,22,65,82,15,6,19,13,0,31,28,44,27,32,51,53,0,0,0,0,0,0,0,0,0,29,18,14,0,5,0,46,7,45,42,83,35,99,62,75,72,91,111,106,107,112,109,105,104,110,113,114,115,49,50,68,69,67,52,0,0,0,0,0,0,24,39,40,38,41,10,36,37,135,0,0,0,0,0,0,0,0,0,0,0,0,0,0,0,0,0,0,0,0,0,0,0,0,0,0,0,0,0,0,0,0,0,0,0,0,0,0,0,0,0,0,0,0,0,0,0,0,0,0,0,0,0,0,0,0,0,0,0,0,0,0,0,0,0,0,0,0,0,0,0,0,89,102,103,100,101,88,71,90,140,147,136,143,148,144,145,146,131,139,132,133,134,0,0,0,0,0,0,0,0,0,0,0,0,0,0,0,0,0,0,0,0,0,0,0,0,0,0,0,0,0,0,0,0,0,0,0,0,0,0,0,0,0,0,0,0,0,0,0,0,0,0,0,0,3,0,16,17,4,30,70,85,87,47,48,12,11,9,8,26,25,23,43,63,64,0,0,0,0,0,0,0,0,0,0,0,0,0,0,0,0,0,0,86],Ea,[92,94]⟩
end Go.Proofs.YtcmmhbmgpflmeaaGreatDoor
namespace Go.Proofs.YtcmmhbmgpflmeaaGreatDoor
open Go.RowKit Go.ChangeShapes Go.WideShapes
set_option linter.unusedSimpArgs false
set_option linter.unusedVariables false
section
inductive ea where
 | bool
 | int (k:IntKind)
 | str
 | slice (bI:Nat) (row:List ea)
inductive gP:ea→IV→Prop where
 | bool (b:Bool):gP .bool (.bool b)
 | int (k:IntKind) (n:Int) (h:k.min≤n∧n≤k.max):gP (.int k) (.int k n)
 | str (s:ByteArray) (h:s.size≤reachBytes):gP .str (.str s)
 | slice (bI:Nat) (cy:List ea) (af:List (List IV)) (hl:af.length*bI≤reachBytes) (hr:∀ row∈af,row.length=cy.length)
  (hc:∀ row∈af,∀ (i:Nat) (t:ea) (c:IV),cy[i]?=some t→row[i]?=some c→gP t c):gP (.slice bI cy) (.slice af)
def bS (cy:List ea) (row:List IV):Prop:=row.length=cy.length∧∀ (i:Nat) (t:ea) (c:IV),cy[i]?=some t→row[i]?=some c→gP t c
def Z8 (P:Program) (f:TypeId→Option (List ea)):Nat→List Field→Option (List ea)
 | _,[]=>some []
 | off,x::r=>if x.offset=off then match f x.type with
   | some a=>if a.length=P.cellsOf x.type then match Z8 P f (off+a.length) r with
     | some b=>some (a++b)
     | none=>none
    else none
   | none=>none
  else none
def Wy (P:Program):Nat→TypeId→Option (List ea)
 | 0,_=>none
 | n+1,t=>match P.underlying t with
  | some .bool=>some [.bool]
  | some (.int k)=>some [.int k]
  | some .string=>some [.str]
  | some (.slice e)=>match Wy P n e with
   | some r=>if r.length=P.cellsOf e∧0 < r.length then some [.slice (P.bytesOf e) r] else none
   | none=>none
  | some (.struct fs)=>match Z8 P (Wy P n) 0 fs.toList with
   | some r=>if r.length=P.cellsOf t then some r else none
   | none=>none
  | _=>none
def nZ (w:World) (b:Nat):Nat:=match w.heap[b]? with
 | some (.cells c _ _)=>c.size
 | _=>0
theorem O9 {w:World} {b:Nat} (h:0 < nZ w b):b < w.heap.size:=by
 unfold nZ at h
 split at h
 ·rename_i c t f e;exact (ui.1 e).1
 ·omega
theorem HM {w:World} {b off:Nat} {s:Option Nat} {v:Value} (h:w.cell? ⟨b,off,s⟩=some v):s=none∧off < nZ w b:=by
 unfold World.cell? at h
 unfold nZ
 simp only at h
 split at h
 ·rename_i c t f e
  rw [e]
  cases s with
  | some _=>simp at h
  | none=>simp at h;exact ⟨rfl,(ui.1 h).1⟩
 ·cases h
theorem Yn {α β:Type} {f:α→Option β}:∀ {l:List α} {ys:List β},l.mapM f=some ys→ys.length=l.length∧∀ (i:Nat) (x:α),l[i]?=some x→∃ y,ys[i]?=some y∧f x=some y
 | [],ys,h=>by
  simp at h;subst h;exact ⟨rfl,fun i x hx=>by simp at hx⟩
 | a::l,ys,h=>by
  rw [uG] at h
  simp only [ux,ug,uE,Option.some.injEq] at h
  obtain ⟨y,hy,r,hr,rfl⟩:=h
  obtain ⟨h1,h2⟩:=Yn hr
  refine ⟨by simp [h1],fun i x hx => ?_⟩
  cases i with
  | zero=>simp at hx;subst hx;exact ⟨y,rfl,hy⟩
  | succ i=>exact h2 i x (by simpa using hx)
theorem iB.app {Z:Nat→Nat} {w:World} {a b:List IV} {x y:List Value} (h1:iB Z w a x) (h2:iB Z w b y):iB Z w (a++b) (x++y):=by
 refine ⟨by simp [h1.1,h2.1],fun j c u hc hu => ?_⟩
 rcases uH j a.length with h | h
 ·rw [ue h] at hc
  rw [ue (by rw [←h1.1];exact h)] at hu
  exact h1.2 j c u hc hu
 ·rw [ud h] at hc
  rw [ud (by rw [←h1.1];exact h),←h1.1] at hu
  exact h2.2 _ c u hc hu
theorem bS.app {a b:List ea} {x y:List IV} (h1:bS a x) (h2:bS b y):bS (a++b) (x++y):=by
 refine ⟨by simp [h1.1,h2.1],fun j c u hc hu => ?_⟩
 rcases uH j a.length with h | h
 ·rw [ue h] at hc
  rw [ue (by rw [h1.1];exact h)] at hu
  exact h1.2 j c u hc hu
 ·rw [ud h] at hc
  rw [ud (by rw [h1.1];exact h),h1.1] at hu
  exact h2.2 _ c u hc hu
theorem iB.one {Z:Nat→Nat} {w:World} {a:IV} {x:Value} (h:RI Z w a x):iB Z w [a] [x]:=⟨rfl,fun j c u hc hu=>by
 cases j with
 | zero=>simp at hc hu;subst hc;subst hu;exact h
 | succ j=>simp at hc⟩
theorem bS.one {t:ea} {a:IV} (h:gP t a):bS [t] [a]:=⟨rfl,fun j c u hc hu=>by
 cases j with
 | zero=>simp at hc hu;subst hc;subst hu;exact h
 | succ j=>simp at hc⟩
section
variable {H:Type} {enc:TypeId×Value→H} {P:Program} {w:World}
def Bj (w:World) (cy:List ea) (cs:List Value):Prop:=∃ row,iB (nZ w) w row cs∧bS cy row∧∀ v∈cs,v.oneCell'=true
theorem Vl {fuel:Nat} {f:TypeId→Option (List ea)} {cs:List Value}
  (ih:∀ t cs d ps cy,f t=some cy→DataW.trod enc P w 0 (fun _=>true) true fuel t cs=some (d,ps)→(d.weights P t).all (· ≤ reachBytes)=true→Bj w cy cs) :
  ∀ (fs:List Field) (off:Nat) (xs:List (DataW H×List MemPlace)) (r:List ea),Z8 P f off fs=some r →
   (fs.mapM fun x=>DataW.trod enc P w 0 (fun _=>true) true fuel x.type ((cs.drop x.offset).take (P.cellsOf x.type)))=some xs →
   (DataW.weightsEach P (fs.map (·.type)) (xs.map (·.1))).all (· ≤ reachBytes)=true→Bj w r ((cs.drop off).take r.length)
 | [],off,xs,r,h1,h2,h3=>by
  simp only [Z8,Option.some.injEq] at h1
  subst h1
  exact ⟨[],⟨by simp,fun j c u hc=>by simp at hc⟩,⟨rfl,fun j c u hc=>by simp at hc⟩,fun v hv=>by simp at hv⟩
 | x::fs,off,xs,r,h1,h2,h3=>by
  simp only [Z8] at h1
  split at h1
  case isFalse=>cases h1
  rename_i hoff
  split at h1
  case h_2=>cases h1
  rename_i a ha
  split at h1
  case isFalse=>cases h1
  rename_i hlen
  split at h1
  case h_2=>cases h1
  rename_i b hb
  cases h1
  rw [uG] at h2
  simp only [ux,ug,uE,Option.some.injEq] at h2
  obtain ⟨y,hy,ys,hys,rfl⟩:=h2
  simp only [List.map_cons,DataW.weightsEach,uo,uh] at h3
  obtain ⟨r1,g1,g2,g3⟩:=ih _ _ _ _ _ ha hy h3.1
  obtain ⟨r2,k1,k2,k3⟩:=Vl ih fs (off+a.length) ys b hb hys h3.2
  rw [←hlen,hoff] at g1 g3
  have hsplit:(cs.drop off).take (a++b).length=(cs.drop off).take a.length++(cs.drop (off+a.length)).take b.length:=by
   rw [List.length_append,List.take_add,List.drop_drop]
  refine ⟨r1++r2,?_,g2.app k2,?_⟩
  ·rw [hsplit];exact g1.app k1
  ·rw [hsplit];intro v hv
   rcases uk.1 hv with hv | hv
   ·exact g3 v hv
   ·exact k3 v hv
theorem Wb {e:TypeId}:∀ {l:List (DataW H)},(DataW.weightsAll P e l).all (· ≤ reachBytes)=true→∀ d∈l,(d.weights P e).all (· ≤ reachBytes)=true
 | [],_,d,hd=>by cases hd
 | x::l,h,d,hd=>by
  simp only [DataW.weightsAll,uo,uh] at h
  rcases un.1 hd with rfl | hd
  ·exact h.1
  ·exact Wb h.2 d hd
theorem HN {a:Addr} {n:Nat} {cs:List Value} (h:w.cells? 0 a n=some cs):cs.length=n∧∀ j v,cs[j]?=some v→w.cell? (a.add j)=some v:=by
 unfold World.cells? at h
 rw [if_pos (uD _)] at h
 obtain ⟨h1,h2⟩:=Yn h
 refine ⟨by simpa using h1,fun j v hv => ?_⟩
 have hj:j < n:=by
  have:=(uj.1 hv).1
  simpa [h1] using this
 obtain ⟨y,hy,e⟩:=h2 j j (by simp [hj])
 rw [hv] at hy;cases hy;exact e
theorem Pa {a:Addr} {len cap sz bI:Nat} {r:List ea} (hr:r.length=sz) (hpos:0 < sz) (hcap:len≤cap) (hb:len*bI≤reachBytes)
  (hel:∀ i,i < len→∃ cs,w.cells? 0 (a.add (i*sz)) sz=some cs∧Bj w r cs):Bj w [.slice bI r] [.slice (some a) len cap]:=by
 have hrow:∀ i:Nat,∃ row:List IV,i < len→∃ cs,w.cells? 0 (a.add (i*sz)) sz=some cs∧iB (nZ w) w row cs∧bS r row∧∀ v∈cs,v.oneCell'=true:=fun i=>by
  by_cases hi:i < len
  ·obtain ⟨cs,h1,row,h2,h3,h4⟩:=hel i hi
   exact ⟨row,fun _=>⟨cs,h1,h2,h3,h4⟩⟩
  ·exact ⟨[],fun h=>absurd h hi⟩
 obtain ⟨R,hR⟩:=Classical.axiomOfChoice hrow
 have dI:∀ (i:Nat) (row:List IV),((ul len).map R)[i]?=some row→i < len∧row=R i:=fun i row h=>by
  simp only [List.getElem?_map,um] at h
  obtain ⟨k,hk,rfl⟩:=h
  obtain ⟨h1,h2⟩:=uj.1 hk
  simp at h1 h2
  subst h2
  exact ⟨h1,rfl⟩
 have hmem:∀ row∈(ul len).map R,bS r row:=fun row h=>by
  obtain ⟨i,hi⟩:=List.mem_iff_getElem?.1 h
  obtain ⟨h1,rfl⟩:=dI i row hi
  obtain ⟨cs,_,_,h2,_⟩:=hR i h1
  exact h2
 refine ⟨[.slice ((ul len).map R)],.one ?_,.one (.slice _ _ _ (by simpa using hb) (fun row h=>(hmem row h).1) (fun row h=>(hmem row h).2)),fun v hv=>by simp at hv;subst hv;rfl⟩
 rcases Nat.eq_zero_or_pos len with h0 | h0
 ·subst h0;exact .empty a cap
 ·obtain ⟨b,off,spot⟩:=a
  have hs:spot=none:=by
   obtain ⟨cs,h1,_⟩:=hR 0 h0
   obtain ⟨h2,h3⟩:=HN h1
   have hc:=h3 0 _ (uf (by omega))
   rw [Nat.zero_mul] at hc
   exact (HM (s:=spot) (off:=off) hc).1
  subst hs
  have hcell:∀ (i:Nat) (row:List IV) (j:Nat) (c:IV),((ul len).map R)[i]?=some row→row[j]?=some c→∃ v,w.cell? ⟨b,off+i*sz+j,none⟩=some v∧v.oneCell'=true∧RI (nZ w) w c v:=fun i row j c hi hj=>by
   obtain ⟨h1,rfl⟩:=dI i row hi
   obtain ⟨cs,h2,h3,h4,h5⟩:=hR i h1
   obtain ⟨h6,h7⟩:=HN h2
   have hjl:j < cs.length:=by rw [←h3.1];exact (uj.1 hj).1
   have hcs:=uf hjl
   exact ⟨cs[j],by have:=h7 j _ hcs;rwa [qW,qW] at this,h5 _ (List.getElem_mem hjl),h3.2 j c _ hj hcs⟩
  have:=RI.slice (Z:=nZ w) (w:=w) ((ul len).map R) b off cap sz (fun i j=>(w.cell? ⟨b,off+i*sz+j,none⟩).getD undef) (by simpa using hcap)
   (fun i row hi=>by obtain ⟨h1,rfl⟩:=dI i row hi;obtain ⟨_,_,_,h2,_⟩:=hR i h1;rw [h2.1,hr])
   (fun i row j c hi hj=>by obtain ⟨v,h1,_⟩:=hcell i row j c hi hj;exact (HM h1).2)
   (fun i row j c hi hj=>by obtain ⟨v,h1,h2,_⟩:=hcell i row j c hi hj;rw [h1];exact ⟨rfl,h2⟩)
   (fun i row j c hi hj=>by obtain ⟨v,h1,h2,h3⟩:=hcell i row j c hi hj;rw [h1];exact h3)
  simpa using this
theorem QL:∀ (n fuel:Nat) (t:TypeId) (cs:List Value) (d:DataW H) (ps:List MemPlace) (cy:List ea),Wy P n t=some cy→DataW.trod enc P w 0 (fun _=>true) true fuel t cs=some (d,ps) →
  (d.weights P t).all (· ≤ reachBytes)=true→Bj w cy cs
 | 0,_,_,_,_,_,_,h,_,_=>by simp [Wy] at h
 | n+1,0,_,_,_,_,_,_,h,_=>by simp [DataW.trod] at h
 | n+1,fuel+1,t,cs,d,ps,cy,h,ht,hw=>by
  simp only [Wy] at h
  split at h
  ·rename_i hu
   cases h
   simp only [DataW.trod,hu] at ht
   split at ht<;>first | (simp_all;done) | skip
   all_goals first
    | (rename_i b _;exact ⟨[.bool b],.one (.bool b),.one (.bool b),fun v hv=>by simp at hv;subst hv;rfl⟩)
    | skip
  ·rename_i k hu
   cases h
   simp only [DataW.trod,hu] at ht
   split at ht<;>first | (simp_all;done) | skip
   all_goals
    rename_i k1 k' m e1
    cases e1
    split at ht
    case isFalse=>cases ht
    rename_i hk
    obtain ⟨rfl,hwf⟩:=hk
    exact ⟨[.int _ m],.one (.int _ m),.one (.int _ m (by simpa [Lit.wf] using hwf)),fun v hv=>by simp at hv;subst hv;rfl⟩
  ·rename_i hu
   cases h
   simp only [DataW.trod,hu] at ht
   split at ht<;>first | (simp_all;done) | skip
   all_goals
    rename_i s _
    split at ht
    case isFalse=>cases ht
    cases ht
    refine ⟨[.str s],.one (.str s),.one (.str s ?_),fun v hv=>by simp at hv;subst hv;rfl⟩
    simpa [DataW.weights] using hw
  ·rename_i e hu
   split at h
   case h_2=>cases h
   rename_i r hr
   split at h
   case isFalse=>cases h
   rename_i hlen
   cases h
   simp only [DataW.trod,hu] at ht
   split at ht<;>first | (simp_all;done) | skip
   ·cases ht
    exact ⟨[.slice []],.one .nil,.one (.slice _ _ _ (by simp) (fun row h=>by simp at h) (fun row h=>by simp at h)),fun v hv=>by simp at hv;subst hv;rfl⟩
   ·rename_i e' a len cap e1
    cases e1
    split at ht
    case isFalse=>cases ht
    rename_i bT
    simp only [ug,um] at ht
    obtain ⟨elems,hel,rest,ni,heq⟩:=ht
    simp only [Prod.mk.injEq] at heq
    obtain ⟨rfl,_⟩:=heq
    simp only [DataW.weights,hu,List.all_cons,uo,uh,decide_eq_true_eq] at hw
    obtain ⟨hw1,pI,hw3⟩:=hw
    obtain ⟨hl,Pb⟩:=Yn hel
    simp only [List.length_range,List.length_map] at hl hw1
    refine Pa hlen.1 (by omega) bT.2.1 (Nat.le_trans (Nat.mul_le_mul_right _ (by omega)) hw1) fun i hi => ?_
    obtain ⟨y,hy1,rP⟩:=Pb i i (by simp [hi])
    simp only [ug] at rP
    obtain ⟨cs',eW,eX⟩:=rP
    exact ⟨cs',eW,QL n fuel e cs' y.1 y.2 r hr eX (Wb pI _ (List.mem_map.2 ⟨y,List.mem_of_getElem? hy1,rfl⟩))⟩
  ·rename_i fs hu
   split at h
   case h_2=>cases h
   rename_i r0 hr
   split at h
   case isFalse=>cases h
   rename_i hlen
   obtain rfl:r0=cy:=Option.some.inj h
   simp only [DataW.trod,hu] at ht
   split at ht
   case isFalse=>cases ht
   rename_i dY
   simp only [um] at ht
   obtain ⟨xs,hxs,heq⟩:=ht
   simp only [Prod.mk.injEq] at heq
   obtain ⟨rfl,_⟩:=heq
   simp only [DataW.weights,hu] at hw
   have:=Vl (fun t cs d ps cy h1 h2 h3=>QL n fuel t cs d ps cy h1 h2 h3) fs.toList 0 xs r0 hr hxs hw
   rw [hlen,←dY,List.drop_zero,List.take_length] at this
   exact this
  ·cases h
end
end
section
def Bk (P:Program) (t:TypeId):Option (Bool×List ea):=match P.underlying t with
 | some (.struct _)=>match Wy P 12 t with
  | some r=>some (true,r)
  | none=>none
 | some (.array _ _)=>none
 | _=>match Wy P 12 t with
  | some r=>some (false,r)
  | none=>none
def HO:Bool×List ea→IV→Prop
 | (true,cy),x=>∃ row,x=.agg row∧bS cy row
 | (false,cy),x=>bS cy [x]
def XG:List (Bool×List ea)→List IV→Prop
 | [],[]=>True
 | a::pT,x::xs=>HO a x∧XG pT xs
 | _,_=>False
section
variable {H:Type} {enc:TypeId×Value→H} {P:Program} {w:World}
theorem Pc {base:Nat} {t:TypeId} {v:Value} {d:DataW H} {ps:List MemPlace} {a:Bool×List ea} (ha:Bk P t=some a) (hval:Value.okWide P w .any base t v)
  (h:DataW.Trod enc P w 0 (fun _=>true) true t v d ps) (hw:(d.weights P t).all (· ≤ reachBytes)=true):∃ x,RI (nZ w) w x v∧HO a x:=by
 obtain ⟨fuel,hf⟩:=h
 unfold Bk at ha
 split at ha
 ·rename_i fs hu
  split at ha
  case h_2=>cases ha
  rename_i r hr
  cases ha
  simp only [Value.okWide,hu] at hval
  obtain ⟨cs,rfl,_,_⟩:=hval
  obtain ⟨row,h1,h2,h3⟩:=QL 12 fuel t _ d ps r hr hf hw
  refine ⟨.agg row,?_,row,rfl,h2⟩
  have:=RI.agg (Z:=nZ w) (w:=w) row cs.toList (by simpa [Value.cells] using h1.1) (fun v hv=>h3 v (by simpa [Value.cells] using hv)) (fun i c v hc hv=>h1.2 i c v hc (by simpa [Value.cells] using hv))
  simpa using this
 ·cases ha
 ·rename_i Ct hna
  split at ha
  case h_2=>cases ha
  rename_i r hr
  cases ha
  have hone:v.oneCell'=true:=by
   have hc:Cell.okWide P w .any base t v:=by
    unfold Value.okWide at hval
    split at hval
    ·rename_i fs hu;exact absurd hu (Ct fs)
    ·rename_i k e hu;exact absurd hu (hna k e)
    ·exact hval
   cases v<;>first | rfl | (exfalso;revert hc;unfold Cell.okWide Cell.ok;cases P.underlying t with
    | none=>simp
    | some u=>cases u<;>simp)
  have hcs:v.cells.toList=[v]:=by cases v<;>first | rfl | simp [Value.oneCell'] at hone
  obtain ⟨row,h1,h2,h3⟩:=QL 12 fuel t _ d ps r hr hf hw
  rw [hcs] at h1
  obtain ⟨x,rfl⟩:∃ x,row=[x]:=List.length_eq_one_iff.1 (by simpa using h1.1)
  exact ⟨x,h1.2 0 x v rfl rfl,h2⟩
theorem Kq {base:Nat}:∀ {ts:List TypeId} {vs:List Value} {ds:List (DataW H)} {ps:List MemPlace} {pT:List (Bool×List ea)},aY (Bk P) ts=some pT →
  (∀ (j:Nat) t v,ts[j]?=some t→vs[j]?=some v→Value.okWide P w .any base t v)→DataW.TrodAll enc P w 0 (fun _=>true) true ts vs ds ps→(DataW.weightsEach P ts ds).all (· ≤ reachBytes)=true →
  ∃ dH,iB (nZ w) w dH vs∧XG pT dH
 | [],vs,ds,ps,pT,ha,hval,h,hw=>by
  obtain ⟨rfl,rfl,rfl⟩:=trodAll_nil h
  simp [aY] at ha;subst ha
  exact ⟨[],⟨rfl,fun j c u hc=>by simp at hc⟩,trivial⟩
 | t::ts,vs,ds,ps,pT,ha,hval,h,hw=>by
  obtain ⟨v,HP,d,HQ,a,b,rfl,rfl,rfl,h1,h2⟩:=trodAll_cons h
  simp only [aY] at ha
  split at ha
  case h_2=>cases ha
  rename_i a1 Pd
  split at ha
  case h_2=>cases ha
  rename_i as1 Eb
  cases ha
  simp only [DataW.weightsEach,uo,uh] at hw
  obtain ⟨x,g1,g2⟩:=Pc Pd (hval 0 t v rfl rfl) h1 hw.1
  obtain ⟨xs,g3,g4⟩:=Kq Eb (fun j t v hj hv=>hval (j+1) t v (by simpa using hj) (by simpa using hv)) h2 hw.2
  exact ⟨x::xs,iB.app (.one g1) g3,g2,g4⟩
theorem Pe {ts:List TypeId}:∀ {vs:List Value} {ds:List (DataW H)} {ps:List MemPlace},DataW.TrodAll enc P w 0 (fun _=>true) true ts vs ds ps→ds.length=ts.length:=by
 induction ts with
 | nil=>intro vs ds ps h;obtain ⟨rfl,rfl,rfl⟩:=trodAll_nil h;rfl
 | cons t ts ih=>
  intro vs ds ps h
  obtain ⟨v,HP,d,HQ,a,b,rfl,rfl,rfl,h1,h2⟩:=trodAll_cons h
  simp [ih h2]
theorem Kr {W':World} (hl:laidOutB P=true) (hb:Below w.heap.size w W'):∀ {ts:List TypeId} {vs:List Value} {ds:List (DataW H)} {ps:List MemPlace},(∀ t∈ts,P.readableRec t=true∧t < P.types.size) →
  DataW.TrodAll enc P w 0 (fun _=>true) true ts vs ds ps→∀ sp:Nat→Bool,(∀ p∈ps,p.block < w.heap.size∧sp p.block=true)→DataW.TrodAll enc P W' 0 sp true ts vs ds ps
 | [],vs,ds,ps,hr,h,sp,hlt=>by
  obtain ⟨rfl,rfl,rfl⟩:=trodAll_nil h;rfl
 | t::ts,vs,ds,ps,hr,h,sp,hlt=>by
  obtain ⟨v,HP,d,HQ,a,b,rfl,rfl,rfl,h1,h2⟩:=trodAll_cons h
  have ht:=hr t (uy ..)
  exact ⟨a,b,WideElems.Trod_stays hl ht.1 ht.2 h1 (fun x hx=>hb.same (hlt x (ut _ hx)).1) (fun x hx=>(hlt x (ut _ hx)).2),
   Kr hl hb (fun t ht=>hr t (uu _ ht)) h2 sp (fun p hp=>hlt p (List.mem_append_right _ hp)),rfl⟩
end
theorem Pf {H:Type} {enc:TypeId×Value→H} {P:Program} {f:Func} {s:ChangeSpec} {apart fresh handsOn again:Bool} {W W':World} {args:Array Value} {v:Value} {ds:List (DataW H)} {before:List MemPlace}
  (hW:DataW.Whole enc P f.params.toList s.vars apart W args.toList ds [] before)
  (hres:∀ (b:Nat) (sp:Nat→Bool) (hd:Bool),DataW.TrodAll enc P W' b sp hd f.resultTypes.toList (v.resultList f.resultTypes.size) (s.fn H (ds++[])).results [])
  (hargs:∀ sp:Nat→Bool,(∀ p∈before,sp p.block=true)→DataW.TrodAll enc P W' 0 sp true f.params.toList args.toList (s.fn H (ds++[])).args before)
  (hvars:∀ sp:Nat→Bool,DataW.TrodVars enc P W' sp s.vars (s.fn H (ds++[])).vars [])
  (hk:Below W.heap.size W W')
  (hok:∀ (j:Nat) (t:TypeId) (r:Value),f.resultTypes[j]?=some t→(v.resultList f.resultTypes.size)[j]?=some r→Value.okWide P W' .any 0 t r) :
  s.post enc P f apart fresh handsOn again W args v W':=by
 have hlt:∀ p∈before,p.block < W.heap.size:=fun p hp=>hW.lt p hp
 have hold:∀ p∈before,(fun b=>decide (b < W.heap.size)) p.block=true:=fun p hp=>by simpa using hlt p hp
 refine ⟨ds,[],before,[],before,[],hW,hres _ _ _,hargs _ hold,hvars _,hk.frame _,fun _ => ?_⟩
 obtain ⟨_,_,_,_,_,hz,hn⟩:=hW
 refine ⟨hok,_,_,([]++before)++[],⟨[]++before,[],trodAll_append (hargs _ (fun _ _=>rfl)) (hres _ _ _),hvars _,rfl,?_,?_⟩,?_⟩
 ·intro b off hp
  have hp':MemPlace.cell b off∈before:=by simpa using hp
  rw [hk.frozen (p:=⟨b,off,none⟩) (hlt _ hp')]
  exact hz b off hp'
 ·intro ha
  simpa using hn ha
 ·intro p hp _
  simpa using hp
theorem Pg {H:Type} {enc:TypeId×Value→H} {Cx:Ctx} {f:FuncId} {fn:Func} {s:ChangeSpec} {tb:TypeId} {pT:List (Bool×List ea)} {apart fresh handsOn again:Bool} (n:Nat) (hn:Cx.eC n=f)
  (has:aY (Bk Cx.P) fn.params.toList=some pT) (hres:fn.resultTypes = #[tb]) (htb:Cx.P.underlying tb=some .bool) (hvars:s.vars=[])
  (hsp:∀ ds:List (DataW H),ds.length=fn.params.toList.length→s.fn H (ds++[])={results:=[.lit (.bool true)],args:=ds})
  (hlaid:laidOutB Cx.P=true) (hread:(fn.params.toList.all fun t=>Cx.P.readableRec t&&decide (t < Cx.P.types.size))=true)
  (Ec:∀ dH,XG pT dH→aO Cx n dH (.bool true))
  (W:World) (hft:Cx.tabs.p W∧Cx.tabs.n≤W.heap.size)
  (base:Nat) (args:Array Value) (ds gs:List (DataW H)) (before:List MemPlace)
  (hval:∀ (j:Nat) t v,fn.params[j]?=some t→args[j]?=some v→Value.okWide Cx.P W .any base t v)
  (hW:DataW.Whole enc Cx.P fn.params.toList s.vars apart W args.toList ds gs before)
  (Cu:(DataW.weightsEach Cx.P (fn.params.toList++s.plain.varTypes Cx.P) (ds++gs)).all (· ≤ reachBytes)=true) :
  Calls Cx.P f args W fun e W'=>∃ v,e=.returned v∧s.post enc Cx.P fn apart fresh handsOn again W args v W':=by
 have nX:=hW
 obtain ⟨p,q,hA,hV,rfl,hfz,hnd⟩:=hW
 rw [hvars] at hV
 obtain ⟨rfl,rfl⟩:=trodVars_none hV
 have Ed:s.plain.varTypes Cx.P=[]:=by
  have:s.plain.vars=[]:=hvars
  simp [DataSpec.varTypes,this]
 rw [Ed,uq,uq] at Cu
 obtain ⟨dH,h1,h2⟩:=Kq has (fun j t v hj hv=>hval j t v (by simpa using hj) (by simpa using hv)) hA Cu
 subst hn
 have gC:=(Ec dH h2).2 (nZ W) W args.toList (fun b hb=>O9 hb) hft h1
 simp only [Array.toArray_toList] at gC
 refine gC.mono fun e W' ⟨v,Z',he,hr,_,_,hbel⟩ => ?_
 subst he
 cases hr
 have hlt:∀ x∈p++[],x.block < W.heap.size:=fun x hx=>by simpa using nX.lt x hx
 have hspec:=hsp ds (Pe hA)
 simp only [uq] at nX hlt
 refine ⟨_,rfl,Pf nX ?_ ?_ ?_ hbel ?_⟩
 ·intro b sp hd
  rw [hspec,hres]
  exact trodAll_cons_mk (shut_bool htb _) trodAll_mk0
 ·intro sp Ee
  rw [hspec]
  exact Kr hlaid hbel (fun t ht=>by have:=List.all_eq_true.1 hread t ht;simpa using this) hA sp (fun x hx=>⟨hlt x hx,Ee x hx⟩)
 ·intro sp
  rw [hspec,hvars];rfl
 ·exact ok_one hres rfl (okWide_bool_mk htb _)
end
end Go.Proofs.YtcmmhbmgpflmeaaGreatDoor
namespace Go.Proofs.YtcmmhbmgpflmeaaGreatDoor
open Go.RowKit
set_option linter.unusedVariables false
def dL (k:IntKind) (n:Int):Prop:=k.min≤n∧n≤k.max
def lz {α:Type} (bI:Nat) (Ok:α→Prop) (l:List α):Prop:=l.length*bI≤reachBytes∧∀ x∈l,Ok x
theorem zj {t:ea} {ts:List ea} {row:List IV} (h:bS (t::ts) row):∃ c r,row=c::r∧gP t c∧bS ts r:=by
 obtain ⟨hl,hc⟩:=h
 cases row with
 | nil=>simp at hl
 | cons c r=>exact ⟨c,r,rfl,hc 0 t c rfl rfl,by simpa using hl,fun i u d hu hd=>hc (i+1) u d (by simpa using hu) (by simpa using hd)⟩
theorem qt {row:List IV} (h:bS [] row):row=[]:=List.eq_nil_of_length_eq_zero h.1
theorem zu {k:IntKind} {x:IV} (h:gP (.int k) x):∃ n,x=.int k n∧dL k n:=by cases h;exact ⟨_,rfl,by assumption⟩
theorem jO {x:IV} (h:gP .bool x):∃ b,x=.bool b:=by cases h;exact ⟨_,rfl⟩
theorem Ph {x:IV} (h:gP .str x):∃ s,x=.str s∧s.size≤reachBytes:=by cases h;exact ⟨_,rfl,by assumption⟩
theorem Ks {α:Type} {f:α→List IV} {Ok:α→Prop} {cy:List ea} (ho:∀ {row:List IV},bS cy row→∃ x,row=f x∧Ok x) :
  ∀ af:List (List IV),(∀ row∈af,bS cy row)→∃ l:List α,af=l.map f∧∀ x∈l,Ok x
 | [],_=>⟨[],rfl,fun x hx=>by cases hx⟩
 | row::af,h=>by
  obtain ⟨x,rfl,hx⟩:=ho (h row (uy ..))
  obtain ⟨l,rfl,hl⟩:=Ks ho af fun r hr=>h r (uu _ hr)
  exact ⟨x::l,rfl,fun y hy=>by
   rcases un.1 hy with rfl | hy
   ·exact hx
   ·exact hl y hy⟩
theorem zL {α:Type} {f:α→List IV} {Ok:α→Prop} {cy:List ea} {bI:Nat} {x:IV} (ho:∀ {row:List IV},bS cy row→∃ x,row=f x∧Ok x) (h:gP (.slice bI cy) x) :
  ∃ l:List α,x=.slice (l.map f)∧lz bI Ok l:=by
 cases h with
 | slice _ _ af hl hr hc=>
  obtain ⟨l,rfl,hk⟩:=Ks ho af fun row h=>⟨hr row h,hc row h⟩
  exact ⟨l,rfl,by simpa using hl,hk⟩
theorem yj {row:List IV} (h:bS [.int .i64] row):∃ x:Int,row=zb x∧dL .i64 x:=by
 obtain ⟨c,_,rfl,h0,h⟩:=zj h
 obtain rfl:=qt h
 obtain ⟨n,rfl,k⟩:=zu h0
 exact ⟨n,rfl,k⟩
theorem Pj (k:IntKind) {row:List IV} (h:bS [.int k] row):∃ x:Int,row=km k x∧dL k x:=by
 obtain ⟨c,_,rfl,h0,h⟩:=zj h
 obtain rfl:=qt h
 obtain ⟨n,rfl,k⟩:=zu h0
 exact ⟨n,rfl,k⟩
theorem kA {row:List IV} (h:bS [.bool] row):∃ x:Bool,row=zh x∧True:=by
 obtain ⟨c,_,rfl,h0,h⟩:=zj h
 obtain rfl:=qt h
 obtain ⟨n,rfl⟩:=jO h0
 exact ⟨n,rfl,trivial⟩
theorem Pk {α:Type} {f:α→List IV} {Ok:α→Prop} {cy:List ea} {bI:Nat} (ho:∀ {row:List IV},bS cy row→∃ x,row=f x∧Ok x) {row:List IV} (h:bS [.slice bI cy] row) :
  ∃ x:List α,row=q8 f x∧lz bI Ok x:=by
 obtain ⟨c,_,rfl,h0,h⟩:=zj h
 obtain rfl:=qt h
 obtain ⟨l,rfl,k⟩:=zL ho h0
 exact ⟨l,rfl,k⟩
def bN.cy:List ea:=[.int .i64,.int .i64]
structure bN.Ok (x:bN):Prop where
 num:dL .i64 x.num
 den:dL .i64 x.den
theorem bN.fw {row:List IV} (h:bS bN.cy row):∃ x:bN,row=bN.row x∧bN.Ok x:=by
 obtain ⟨c0,_,rfl,h0,h⟩:=zj h
 obtain ⟨c1,_,rfl,h1,h⟩:=zj h
 obtain rfl:=qt h
 obtain ⟨v0,rfl,k0⟩:=zu h0
 obtain ⟨v1,rfl,k1⟩:=zu h1
 exact ⟨⟨v0,v1⟩,rfl,⟨k0,k1⟩⟩
def bp.cy:List ea:=[.str,.int .i64,.int .i64,.int .i64,.int .i64]
structure bp.Ok (x:bp):Prop where
 name:x.name.size≤reachBytes
 kind:dL .i64 x.kind
 base:dL .i64 x.base
 factor:bN.Ok x.factor
theorem bp.fw {row:List IV} (h:bS bp.cy row):∃ x:bp,row=bp.row x∧bp.Ok x:=by
 obtain ⟨c0,_,rfl,h0,h⟩:=zj h
 obtain ⟨c1,_,rfl,h1,h⟩:=zj h
 obtain ⟨c2,_,rfl,h2,h⟩:=zj h
 obtain ⟨c3,_,rfl,h3,h⟩:=zj h
 obtain ⟨c4,_,rfl,h4,h⟩:=zj h
 obtain rfl:=qt h
 obtain ⟨v0,rfl,k0⟩:=Ph h0
 obtain ⟨v1,rfl,k1⟩:=zu h1
 obtain ⟨v2,rfl,k2⟩:=zu h2
 obtain ⟨v3,rfl,k3⟩:=zu h3
 obtain ⟨v4,rfl,k4⟩:=zu h4
 exact ⟨⟨v0,v1,v2,⟨v3,v4⟩⟩,rfl,⟨k0,k1,k2,⟨k3,k4⟩⟩⟩
def aV.cy:List ea:=[.int .i64,.int .i64,.int .i64,.int .i64,.int .i64,.int .i64,.int .i64]
structure aV.Ok (x:aV):Prop where
 kind:dL .i64 x.kind
 bW:dL .i64 x.bW
 cM:dL .i64 x.cM
 to:dL .i64 x.to
 unit:dL .i64 x.unit
 gj:bN.Ok x.gj
theorem aV.fw {row:List IV} (h:bS aV.cy row):∃ x:aV,row=aV.row x∧aV.Ok x:=by
 obtain ⟨c0,_,rfl,h0,h⟩:=zj h
 obtain ⟨c1,_,rfl,h1,h⟩:=zj h
 obtain ⟨c2,_,rfl,h2,h⟩:=zj h
 obtain ⟨c3,_,rfl,h3,h⟩:=zj h
 obtain ⟨c4,_,rfl,h4,h⟩:=zj h
 obtain ⟨c5,_,rfl,h5,h⟩:=zj h
 obtain ⟨c6,_,rfl,h6,h⟩:=zj h
 obtain rfl:=qt h
 obtain ⟨v0,rfl,k0⟩:=zu h0
 obtain ⟨v1,rfl,k1⟩:=zu h1
 obtain ⟨v2,rfl,k2⟩:=zu h2
 obtain ⟨v3,rfl,k3⟩:=zu h3
 obtain ⟨v4,rfl,k4⟩:=zu h4
 obtain ⟨v5,rfl,k5⟩:=zu h5
 obtain ⟨v6,rfl,k6⟩:=zu h6
 exact ⟨⟨v0,v1,v2,v3,v4,⟨v5,v6⟩⟩,rfl,⟨k0,k1,k2,k3,k4,⟨k5,k6⟩⟩⟩
def b8.cy:List ea:=[.int .i64,.int .i64]
structure b8.Ok (x:b8):Prop where
 clause:dL .i64 x.clause
 is:dL .i64 x.is
theorem b8.fw {row:List IV} (h:bS b8.cy row):∃ x:b8,row=b8.row x∧b8.Ok x:=by
 obtain ⟨c0,_,rfl,h0,h⟩:=zj h
 obtain ⟨c1,_,rfl,h1,h⟩:=zj h
 obtain rfl:=qt h
 obtain ⟨v0,rfl,k0⟩:=zu h0
 obtain ⟨v1,rfl,k1⟩:=zu h1
 exact ⟨⟨v0,v1⟩,rfl,⟨k0,k1⟩⟩
def aL.cy:List ea:=[.int .i64,.int .i64,.int .i64,.int .i64,.slice 16 b8.cy,.int .i64,.int .i64,.bool,.bool,.int .i64,.int .i64,.int .i64,.int .i64,.int .i64,.int .i64,.bool]
structure aL.Ok (x:aL):Prop where
 kind:dL .i64 x.kind
 bW:dL .i64 x.bW
 act:dL .i64 x.act
 need:dL .i64 x.need
 start:lz 16 b8.Ok x.start
 after:dL .i64 x.after
 cX:dL .i64 x.cX
 bH:dL .i64 x.bH
 resume:dL .i64 x.resume
 value:bN.Ok x.value
 unit:dL .i64 x.unit
 to:dL .i64 x.to
theorem aL.fw {row:List IV} (h:bS aL.cy row):∃ x:aL,row=aL.row x∧aL.Ok x:=by
 obtain ⟨c0,_,rfl,h0,h⟩:=zj h
 obtain ⟨c1,_,rfl,h1,h⟩:=zj h
 obtain ⟨c2,_,rfl,h2,h⟩:=zj h
 obtain ⟨c3,_,rfl,h3,h⟩:=zj h
 obtain ⟨c4,_,rfl,h4,h⟩:=zj h
 obtain ⟨c5,_,rfl,h5,h⟩:=zj h
 obtain ⟨c6,_,rfl,h6,h⟩:=zj h
 obtain ⟨c7,_,rfl,h7,h⟩:=zj h
 obtain ⟨c8,_,rfl,h8,h⟩:=zj h
 obtain ⟨c9,_,rfl,h9,h⟩:=zj h
 obtain ⟨c10,_,rfl,h10,h⟩:=zj h
 obtain ⟨c11,_,rfl,h11,h⟩:=zj h
 obtain ⟨c12,_,rfl,h12,h⟩:=zj h
 obtain ⟨c13,_,rfl,D7,h⟩:=zj h
 obtain ⟨c14,_,rfl,Pm,h⟩:=zj h
 obtain ⟨c15,_,rfl,Pn,h⟩:=zj h
 obtain rfl:=qt h
 obtain ⟨v0,rfl,k0⟩:=zu h0
 obtain ⟨v1,rfl,k1⟩:=zu h1
 obtain ⟨v2,rfl,k2⟩:=zu h2
 obtain ⟨v3,rfl,k3⟩:=zu h3
 obtain ⟨v4,rfl,k4⟩:=zL @b8.fw h4
 obtain ⟨v5,rfl,k5⟩:=zu h5
 obtain ⟨v6,rfl,k6⟩:=zu h6
 obtain ⟨v7,rfl⟩:=jO h7
 obtain ⟨v8,rfl⟩:=jO h8
 obtain ⟨v9,rfl,k9⟩:=zu h9
 obtain ⟨v10,rfl,Po⟩:=zu h10
 obtain ⟨v11,rfl,Pp⟩:=zu h11
 obtain ⟨v12,rfl,Pq⟩:=zu h12
 obtain ⟨oI,rfl,Pr⟩:=zu D7
 obtain ⟨pU,rfl,Ps⟩:=zu Pm
 obtain ⟨pV,rfl⟩:=jO Pn
 exact ⟨⟨v0,v1,v2,v3,v4,v5,v6,v7,v8,v9,v10,⟨v11,v12⟩,oI,pU,pV⟩,rfl,⟨k0,k1,k2,k3,k4,k5,k6,k9,Po,⟨Pp,Pq⟩,Pr,Ps⟩⟩
def ax.cy:List ea:=[.int .i64,.slice 8 [.int .i64],.slice 48 bp.cy,.slice 56 aV.cy,.slice 136 aL.cy,.int .i64,.slice 8 [.int .i64]]
structure ax.Ok (x:ax):Prop where
 aN:dL .i64 x.aN
 aC:lz 8 (fun x:Int=>dL .i64 x) x.aC
 bk:lz 48 bp.Ok x.bk
 aK:lz 56 aV.Ok x.aK
 aB:lz 136 aL.Ok x.aB
 aJ:dL .i64 x.aJ
 off:lz 8 (fun x:Int=>dL .i64 x) x.off
theorem ax.fw {row:List IV} (h:bS ax.cy row):∃ x:ax,row=ax.row x∧ax.Ok x:=by
 obtain ⟨c0,_,rfl,h0,h⟩:=zj h
 obtain ⟨c1,_,rfl,h1,h⟩:=zj h
 obtain ⟨c2,_,rfl,h2,h⟩:=zj h
 obtain ⟨c3,_,rfl,h3,h⟩:=zj h
 obtain ⟨c4,_,rfl,h4,h⟩:=zj h
 obtain ⟨c5,_,rfl,h5,h⟩:=zj h
 obtain ⟨c6,_,rfl,h6,h⟩:=zj h
 obtain rfl:=qt h
 obtain ⟨v0,rfl,k0⟩:=zu h0
 obtain ⟨v1,rfl,k1⟩:=zL yj h1
 obtain ⟨v2,rfl,k2⟩:=zL @bp.fw h2
 obtain ⟨v3,rfl,k3⟩:=zL @aV.fw h3
 obtain ⟨v4,rfl,k4⟩:=zL @aL.fw h4
 obtain ⟨v5,rfl,k5⟩:=zu h5
 obtain ⟨v6,rfl,k6⟩:=zL yj h6
 exact ⟨⟨v0,v1,v2,v3,v4,v5,v6⟩,rfl,⟨k0,k1,k2,k3,k4,k5,k6⟩⟩
def aq.cy:List ea:=[.int .i64,.int .i64,.int .i64,.int .i64,.bool]
structure aq.Ok (x:aq):Prop where
 aH:dL .i64 x.aH
 left:dL .i64 x.left
 got:dL .i64 x.got
 bg:dL .i64 x.bg
theorem aq.fw {row:List IV} (h:bS aq.cy row):∃ x:aq,row=aq.row x∧aq.Ok x:=by
 obtain ⟨c0,_,rfl,h0,h⟩:=zj h
 obtain ⟨c1,_,rfl,h1,h⟩:=zj h
 obtain ⟨c2,_,rfl,h2,h⟩:=zj h
 obtain ⟨c3,_,rfl,h3,h⟩:=zj h
 obtain ⟨c4,_,rfl,h4,h⟩:=zj h
 obtain rfl:=qt h
 obtain ⟨v0,rfl,k0⟩:=zu h0
 obtain ⟨v1,rfl,k1⟩:=zu h1
 obtain ⟨v2,rfl,k2⟩:=zu h2
 obtain ⟨v3,rfl,k3⟩:=zu h3
 obtain ⟨v4,rfl⟩:=jO h4
 exact ⟨⟨v0,v1,v2,v3,v4⟩,rfl,⟨k0,k1,k2,k3⟩⟩
def bn.cy:List ea:=[.int .i64,.slice 8 [.int .i64],.slice 1 [.bool],.slice 40 aq.cy]
structure bn.Ok (x:bn):Prop where
 day:dL .i64 x.day
 aC:lz 8 (fun x:Int=>dL .i64 x) x.aC
 used:lz 1 (fun x:Bool=>True) x.used
 aM:lz 40 aq.Ok x.aM
theorem bn.fw {row:List IV} (h:bS bn.cy row):∃ x:bn,row=bn.row x∧bn.Ok x:=by
 obtain ⟨c0,_,rfl,h0,h⟩:=zj h
 obtain ⟨c1,_,rfl,h1,h⟩:=zj h
 obtain ⟨c2,_,rfl,h2,h⟩:=zj h
 obtain ⟨c3,_,rfl,h3,h⟩:=zj h
 obtain rfl:=qt h
 obtain ⟨v0,rfl,k0⟩:=zu h0
 obtain ⟨v1,rfl,k1⟩:=zL yj h1
 obtain ⟨v2,rfl,k2⟩:=zL kA h2
 obtain ⟨v3,rfl,k3⟩:=zL @aq.fw h3
 exact ⟨⟨v0,v1,v2,v3⟩,rfl,⟨k0,k1,k2,k3⟩⟩
def aA.cy:List ea:=[.int .i64,.slice 8 [.int .i64],.slice 1 [.bool],.slice 40 aq.cy,.bool]
structure aA.Ok (x:aA):Prop where
 state:bn.Ok x.state
theorem aA.fw {row:List IV} (h:bS aA.cy row):∃ x:aA,row=aA.row x∧aA.Ok x:=by
 obtain ⟨c0,_,rfl,h0,h⟩:=zj h
 obtain ⟨c1,_,rfl,h1,h⟩:=zj h
 obtain ⟨c2,_,rfl,h2,h⟩:=zj h
 obtain ⟨c3,_,rfl,h3,h⟩:=zj h
 obtain ⟨c4,_,rfl,h4,h⟩:=zj h
 obtain rfl:=qt h
 obtain ⟨v0,rfl,k0⟩:=zu h0
 obtain ⟨v1,rfl,k1⟩:=zL yj h1
 obtain ⟨v2,rfl,k2⟩:=zL kA h2
 obtain ⟨v3,rfl,k3⟩:=zL @aq.fw h3
 obtain ⟨v4,rfl⟩:=jO h4
 exact ⟨⟨⟨v0,v1,v2,v3⟩,v4⟩,rfl,⟨⟨k0,k1,k2,k3⟩⟩⟩
def bA.cy:List ea:=[.int .i64,.int .i64]
structure bA.Ok (x:bA):Prop where
 step:dL .i64 x.step
 to:dL .i64 x.to
theorem bA.fw {row:List IV} (h:bS bA.cy row):∃ x:bA,row=bA.row x∧bA.Ok x:=by
 obtain ⟨c0,_,rfl,h0,h⟩:=zj h
 obtain ⟨c1,_,rfl,h1,h⟩:=zj h
 obtain rfl:=qt h
 obtain ⟨v0,rfl,k0⟩:=zu h0
 obtain ⟨v1,rfl,k1⟩:=zu h1
 exact ⟨⟨v0,v1⟩,rfl,⟨k0,k1⟩⟩
def cF.cy:List ea:=[.int .i64,.slice 88 aA.cy,.slice 24 [.slice 16 bA.cy]]
structure cF.Ok (x:cF):Prop where
 zw:dL .i64 x.zw
 aR:lz 88 aA.Ok x.aR
 bO:lz 24 (fun x:List bA=>lz 16 bA.Ok x) x.bO
theorem cF.fw {row:List IV} (h:bS cF.cy row):∃ x:cF,row=cF.row x∧cF.Ok x:=by
 obtain ⟨c0,_,rfl,h0,h⟩:=zj h
 obtain ⟨c1,_,rfl,h1,h⟩:=zj h
 obtain ⟨c2,_,rfl,h2,h⟩:=zj h
 obtain rfl:=qt h
 obtain ⟨v0,rfl,k0⟩:=zu h0
 obtain ⟨v1,rfl,k1⟩:=zL @aA.fw h1
 obtain ⟨v2,rfl,k2⟩:=zL (Pk (bI:=16) @bA.fw) h2
 exact ⟨⟨v0,v1,v2⟩,rfl,⟨k0,k1,k2⟩⟩
def cQ.cy:List ea:=[.bool,.int .i64,.int .i64]
structure cQ.Ok (x:cQ):Prop where
 move:dL .i64 x.move
 wait:dL .i64 x.wait
theorem cQ.fw {row:List IV} (h:bS cQ.cy row):∃ x:cQ,row=cQ.row x∧cQ.Ok x:=by
 obtain ⟨c0,_,rfl,h0,h⟩:=zj h
 obtain ⟨c1,_,rfl,h1,h⟩:=zj h
 obtain ⟨c2,_,rfl,h2,h⟩:=zj h
 obtain rfl:=qt h
 obtain ⟨v0,rfl⟩:=jO h0
 obtain ⟨v1,rfl,k1⟩:=zu h1
 obtain ⟨v2,rfl,k2⟩:=zu h2
 exact ⟨⟨v0,v1,v2⟩,rfl,⟨k1,k2⟩⟩
def dh.cy:List ea:=[.int .i64,.slice 8 [.int .i64],.slice 1 [.bool],.slice 40 aq.cy,.bool,.int .i64]
structure dh.Ok (x:dh):Prop where
 aW:aA.Ok x.aW
 move:dL .i64 x.move
theorem dh.fw {row:List IV} (h:bS dh.cy row):∃ x:dh,row=dh.row x∧dh.Ok x:=by
 obtain ⟨c0,_,rfl,h0,h⟩:=zj h
 obtain ⟨c1,_,rfl,h1,h⟩:=zj h
 obtain ⟨c2,_,rfl,h2,h⟩:=zj h
 obtain ⟨c3,_,rfl,h3,h⟩:=zj h
 obtain ⟨c4,_,rfl,h4,h⟩:=zj h
 obtain ⟨c5,_,rfl,h5,h⟩:=zj h
 obtain rfl:=qt h
 obtain ⟨v0,rfl,k0⟩:=zu h0
 obtain ⟨v1,rfl,k1⟩:=zL yj h1
 obtain ⟨v2,rfl,k2⟩:=zL kA h2
 obtain ⟨v3,rfl,k3⟩:=zL @aq.fw h3
 obtain ⟨v4,rfl⟩:=jO h4
 obtain ⟨v5,rfl,k5⟩:=zu h5
 exact ⟨⟨⟨⟨v0,v1,v2,v3⟩,v4⟩,v5⟩,rfl,⟨⟨⟨k0,k1,k2,k3⟩⟩,k5⟩⟩
def eu.cy:List ea:=[.int .i64,.slice 96 dh.cy]
structure eu.Ok (x:eu):Prop where
 zw:dL .i64 x.zw
 af:lz 96 dh.Ok x.af
theorem eu.fw {row:List IV} (h:bS eu.cy row):∃ x:eu,row=eu.row x∧eu.Ok x:=by
 obtain ⟨c0,_,rfl,h0,h⟩:=zj h
 obtain ⟨c1,_,rfl,h1,h⟩:=zj h
 obtain rfl:=qt h
 obtain ⟨v0,rfl,k0⟩:=zu h0
 obtain ⟨v1,rfl,k1⟩:=zL @dh.fw h1
 exact ⟨⟨v0,v1⟩,rfl,⟨k0,k1⟩⟩
def cU.cy:List ea:=[.int .i64,.slice 8 [.int .i64],.slice 1 [.bool],.slice 40 aq.cy,.bool,.int .i64,.int .i64]
structure cU.Ok (x:cU):Prop where
 aW:aA.Ok x.aW
 bl:dL .i64 x.bl
 move:dL .i64 x.move
theorem cU.fw {row:List IV} (h:bS cU.cy row):∃ x:cU,row=cU.row x∧cU.Ok x:=by
 obtain ⟨c0,_,rfl,h0,h⟩:=zj h
 obtain ⟨c1,_,rfl,h1,h⟩:=zj h
 obtain ⟨c2,_,rfl,h2,h⟩:=zj h
 obtain ⟨c3,_,rfl,h3,h⟩:=zj h
 obtain ⟨c4,_,rfl,h4,h⟩:=zj h
 obtain ⟨c5,_,rfl,h5,h⟩:=zj h
 obtain ⟨c6,_,rfl,h6,h⟩:=zj h
 obtain rfl:=qt h
 obtain ⟨v0,rfl,k0⟩:=zu h0
 obtain ⟨v1,rfl,k1⟩:=zL yj h1
 obtain ⟨v2,rfl,k2⟩:=zL kA h2
 obtain ⟨v3,rfl,k3⟩:=zL @aq.fw h3
 obtain ⟨v4,rfl⟩:=jO h4
 obtain ⟨v5,rfl,k5⟩:=zu h5
 obtain ⟨v6,rfl,k6⟩:=zu h6
 exact ⟨⟨⟨⟨v0,v1,v2,v3⟩,v4⟩,v5,v6⟩,rfl,⟨⟨⟨k0,k1,k2,k3⟩⟩,k5,k6⟩⟩
def bP.cy:List ea:=[.int .i64,.slice 104 cU.cy]
structure bP.Ok (x:bP):Prop where
 zw:dL .i64 x.zw
 af:lz 104 cU.Ok x.af
theorem bP.fw {row:List IV} (h:bS bP.cy row):∃ x:bP,row=bP.row x∧bP.Ok x:=by
 obtain ⟨c0,_,rfl,h0,h⟩:=zj h
 obtain ⟨c1,_,rfl,h1,h⟩:=zj h
 obtain rfl:=qt h
 obtain ⟨v0,rfl,k0⟩:=zu h0
 obtain ⟨v1,rfl,k1⟩:=zL @cU.fw h1
 exact ⟨⟨v0,v1⟩,rfl,⟨k0,k1⟩⟩
def ez.cy:List ea:=[.int .i64,.slice 96 dh.cy]
structure ez.Ok (x:ez):Prop where
 s:eu.Ok x.s
theorem ez.fw {row:List IV} (h:bS ez.cy row):∃ x:ez,row=ez.row x∧ez.Ok x:=by
 obtain ⟨c0,_,rfl,h0,h⟩:=zj h
 obtain ⟨c1,_,rfl,h1,h⟩:=zj h
 obtain rfl:=qt h
 obtain ⟨v0,rfl,k0⟩:=zu h0
 obtain ⟨v1,rfl,k1⟩:=zL @dh.fw h1
 exact ⟨⟨⟨v0,v1⟩⟩,rfl,⟨⟨k0,k1⟩⟩⟩
def bQ.cy:List ea:=[.int .i64,.slice 104 cU.cy]
structure bQ.Ok (x:bQ):Prop where
 d:bP.Ok x.d
theorem bQ.fw {row:List IV} (h:bS bQ.cy row):∃ x:bQ,row=bQ.row x∧bQ.Ok x:=by
 obtain ⟨c0,_,rfl,h0,h⟩:=zj h
 obtain ⟨c1,_,rfl,h1,h⟩:=zj h
 obtain rfl:=qt h
 obtain ⟨v0,rfl,k0⟩:=zu h0
 obtain ⟨v1,rfl,k1⟩:=zL @cU.fw h1
 exact ⟨⟨⟨v0,v1⟩⟩,rfl,⟨⟨k0,k1⟩⟩⟩
def ai.cy:List ea:=[.int .i64,.int .i64,.int .i64,.int .i64,.int .i64]
structure ai.Ok (x:ai):Prop where
 aH:dL .i64 x.aH
 from_:dL .i64 x.from_
 to:dL .i64 x.to
 got:dL .i64 x.got
 bg:dL .i64 x.bg
theorem ai.fw {row:List IV} (h:bS ai.cy row):∃ x:ai,row=ai.row x∧ai.Ok x:=by
 obtain ⟨c0,_,rfl,h0,h⟩:=zj h
 obtain ⟨c1,_,rfl,h1,h⟩:=zj h
 obtain ⟨c2,_,rfl,h2,h⟩:=zj h
 obtain ⟨c3,_,rfl,h3,h⟩:=zj h
 obtain ⟨c4,_,rfl,h4,h⟩:=zj h
 obtain rfl:=qt h
 obtain ⟨v0,rfl,k0⟩:=zu h0
 obtain ⟨v1,rfl,k1⟩:=zu h1
 obtain ⟨v2,rfl,k2⟩:=zu h2
 obtain ⟨v3,rfl,k3⟩:=zu h3
 obtain ⟨v4,rfl,k4⟩:=zu h4
 exact ⟨⟨v0,v1,v2,v3,v4⟩,rfl,⟨k0,k1,k2,k3,k4⟩⟩
def aj.cy:List ea:=[.int .i64,.bool]
structure aj.Ok (x:aj):Prop where
 aJ:dL .i64 x.aJ
theorem aj.fw {row:List IV} (h:bS aj.cy row):∃ x:aj,row=aj.row x∧aj.Ok x:=by
 obtain ⟨c0,_,rfl,h0,h⟩:=zj h
 obtain ⟨c1,_,rfl,h1,h⟩:=zj h
 obtain rfl:=qt h
 obtain ⟨v0,rfl,k0⟩:=zu h0
 obtain ⟨v1,rfl⟩:=jO h1
 exact ⟨⟨v0,v1⟩,rfl,⟨k0⟩⟩
end Go.Proofs.YtcmmhbmgpflmeaaGreatDoor
namespace Go.Proofs.YtcmmhbmgpflmeaaGreatDoor
set_option linter.unusedSimpArgs false
set_option linter.unusedVariables false
def QM {σ ρ:Type} (A:σ→Prop) (Q:ρ→Prop):σ ⊕ ρ→Prop
 | .inl s=>A s
 | .inr r=>Q r
theorem JO {σ ρ:Type} {f:Nat→σ→Option (σ ⊕ ρ)} {Inv:Nat→σ→Prop} {Q:ρ→Prop} (n:Nat)
  (step:∀ (i:Nat) (s:σ),i < n→Inv i s→∃ o,f i s=some o∧QM (Inv (i+1)) Q o) :
  ∀ (k i:Nat) (s:σ),i+k=n→Inv i s→∃ o,ck f i k s=some o∧QM (Inv n) Q o
 | 0,i,s,h,hi=>⟨.inl s,rfl,by obtain rfl:i=n:=by omega
                              exact hi⟩
 | k+1,i,s,h,hi=>by
  obtain ⟨o,h1,h2⟩:=step i s (by omega) hi
  simp only [ck,h1]
  cases o with
  | inl s'=>exact JO n step k (i+1) s' (by omega) h2
  | inr r=>exact ⟨.inr r,rfl,h2⟩
theorem Kt {σ ρ:Type} {f:Nat→σ→Option (σ ⊕ ρ)} {n:Int} {s0:σ} (Inv:Nat→σ→Prop) (Q:ρ→Prop) (hn:n < 4611686018427387904)
  (h0:Inv 0 s0) (step:∀ (i:Nat) (s:σ),(i:Int) < n→Inv i s→∃ o,f i s=some o∧QM (Inv (i+1)) Q o) :
  ∃ o,aG n f s0=some o∧QM (Inv n.toNat) Q o:=by
 rw [Qz hn]
 exact JO n.toNat (fun i s hi=>step i s (by omega)) n.toNat 0 s0 (by omega) h0
theorem wA {σ ρ:Type} {f:Nat→σ→Option (σ ⊕ ρ)} {n:Nat} {s0:σ} (Inv:Nat→σ→Prop) (Q:ρ→Prop) (hn:n < 4611686018427387904)
  (h0:Inv 0 s0) (step:∀ (i:Nat) (s:σ),i < n→Inv i s→∃ o,f i s=some o∧QM (Inv (i+1)) Q o) :
  ∃ o,aG (n:Int) f s0=some o∧QM (Inv n) Q o:=by
 have:=Kt (n:=(n:Int)) Inv Q (by omega) h0 (fun i s hi=>step i s (by omega))
 simpa using this
theorem Ku {σ ρ:Type} {f:σ→Option (σ ⊕ ρ)} (Inv:σ→Prop) (Q:ρ→Prop) (m:σ→Nat)
  (step:∀ s,Inv s→∃ o,f s=some o∧QM (fun s'=>Inv s'∧m s' < m s) Q o):∀ s0,Inv s0→∃ r,iter f s0=some r∧Q r:=by
 have key:∀ (k:Nat) (s:σ),m s < k→Inv s→∃ r,iter f s=some r∧Q r:=by
  intro k
  induction k with
  | zero=>intro s h;omega
  | succ k ih=>
   intro s hk hs
   obtain ⟨o,h1,h2⟩:=step s hs
   rw [Ns,h1]
   cases o with
   | inl s'=>exact ih s' (by have:=h2.2;omega) h2.1
   | inr r=>exact ⟨r,rfl,h2⟩
 exact fun s0 h=>key _ s0 (Nat.lt_succ_self _) h
theorem Jf {ρ:Type} {f:Nat→Unit→Option (Unit ⊕ ρ)} {p:Nat→Bool} {g:Nat→ρ}:∀ (k i:Nat),(∀ j,i≤j→j < i+k→f j ()=some (bif p j then .inl () else .inr (g j))) →
  ck f i k ()=some (match (uI i k).find? (fun j=>!p j) with | none=>.inl () | some j=>.inr (g j))
 | 0,i,h=>rfl
 | k+1,i,h=>by
  simp only [ck,h i (uJ _) (by omega),uC,uF]
  cases hp:p i with
  | true=>
   simp only [bL,Bool.not_true]
   exact Jf k (i+1) fun j h1 h2=>h j (by omega) (by omega)
  | false=>simp
theorem xi {ρ:Type} {f:Nat→Unit→Option (Unit ⊕ ρ)} {n:Nat} (p:Nat→Bool) (g:Nat→ρ) (hn:n < 4611686018427387904) (h:∀ j,j < n→f j ()=some (bif p j then .inl () else .inr (g j))) :
  aG (n:Int) f ()=some (match (ul n).find? (fun j=>!p j) with | none=>.inl () | some j=>.inr (g j)):=by
 rw [Qz (by omega)]
 have:=Jf (f:=f) (p:=p) (g:=g) n 0 (fun j _ h2=>h j (by omega))
 simpa [uv] using this
theorem wd {n:Nat} {p:Nat→Bool} (h:(ul n).find? (fun j=>!p j)=none):∀ j,j < n→p j=true:=fun j hj=>by
 have:=List.find?_eq_none.1 h j (List.mem_range.2 hj)
 simpa using this
theorem Wc {q:Nat→Bool}:∀ (k a i:Nat),(uI a k).find? q=some i→i < a+k∧a≤i∧q i=true∧∀ j,a≤j→j < i→q j=false
 | 0,a,i,h=>by simp at h
 | k+1,a,i,h=>by
  rw [uC,uF] at h
  split at h
  ·rename_i hq
   cases h
   exact ⟨by omega,uJ _,hq,fun j h1 h2=>by omega⟩
  ·rename_i hq
   obtain ⟨h1,h2,h3,h4⟩:=Wc k (a+1) i h
   exact ⟨by omega,by omega,h3,fun j h5 h6=>by
    rcases Nat.eq_or_lt_of_le h5 with h7 | h7
    ·subst h7;exact hq
    ·exact h4 j (by omega) h6⟩
theorem we {n i:Nat} {p:Nat→Bool} (h:(ul n).find? (fun j=>!p j)=some i):i < n∧p i=false∧∀ j,j < i→p j=true:=by
 rw [uv] at h
 obtain ⟨h1,_,h2,h3⟩:=Wc n 0 i h
 exact ⟨by omega,by simpa using h2,fun j hj=>by simpa using h3 j (uD _) hj⟩
theorem zx {α:Type} (b:Bool) (x y:α):(bif b then some x else some y)=some (bif b then x else y):=by cases b<;>rfl
theorem zt {α:Type} {l:List α} {i:Nat} {e:α} (h:l[i]?=some e):zf l (i:Int)=some e:=by
 unfold zf;rw [if_pos (by omega)];simpa using h
theorem z7 {α:Type} (l:List α) (i:Nat):zf l (i:Int)=l[i]?:=by
 unfold zf;rw [if_pos (by omega)];simp
theorem jg {α:Type} {l:List α} {n:Int} (h0:0≤n) (h1:n < l.length):∃ h:n.toNat < l.length,zf l n=some l[n.toNat]:=by
 have h:n.toNat < l.length:=by omega
 exact ⟨h,by unfold zf;rw [if_pos h0];exact uf h⟩
theorem HR {α:Type} {l:List α} {n:Int} (h:¬ (0≤n∧n < l.length)):zf l n=none:=by
 unfold zf
 split
 ·exact List.getElem?_eq_none (by omega)
 ·rfl
theorem kL {len:Nat} {n:Int} (h0:0≤n) (h1:n < len):zo len n=some n.toNat:=by unfold zo;rw [if_pos ⟨h0,h1⟩]
theorem zC {len i:Nat} (h:i < len):zo len (i:Int)=some i:=by unfold zo;rw [if_pos ⟨by omega,by omega⟩];simp
def ay {α:Type} (x:Option α) (Q:α→Prop):Prop:=∃ r,x=some r∧Q r
theorem ay.some {α:Type} {a:α} {Q:α→Prop} (h:Q a):ay (Option.some a) Q:=⟨a,rfl,h⟩
theorem ay.bind {α β:Type} {x:Option α} {f:α→Option β} {P:α→Prop} {Q:β→Prop} (hx:ay x P) (hf:∀ v,P v→ay (f v) Q):ay (x.bind f) Q:=by
 obtain ⟨v,rfl,hv⟩:=hx
 exact hf v hv
theorem ay.az {α β:Type} {x:Option α} {f:α→Option β} {v:α} {Q:β→Prop} (hx:x=Option.some v) (hf:ay (f v) Q):ay (x.bind f) Q:=by
 subst hx;exact hf
theorem ay.ite {α:Type} {b:Bool} {x y:Option α} {Q:α→Prop} (h1:b=true→ay x Q) (h2:b=false→ay y Q):ay (bif b then x else y) Q:=by
 cases b
 ·exact h2 rfl
 ·exact h1 rfl
theorem ay.mono {α:Type} {x:Option α} {P Q:α→Prop} (h:ay x P) (hq:∀ r,P r→Q r):ay x Q:=by
 obtain ⟨r,h1,h2⟩:=h;exact ⟨r,h1,hq r h2⟩
theorem ay.eq {α:Type} {x:Option α} {a:α} (h:ay x (· = a)):x=Option.some a:=by obtain ⟨r,h1,rfl⟩:=h;exact h1
theorem ay.of {α:Type} {x:Option α} {a:α} (h:x=Option.some a):ay x (· = a):=⟨a,h,rfl⟩
theorem ay.dS {σ ρ:Type} {f:Nat→σ→Option (σ ⊕ ρ)} {n:Nat} {s0:σ} {Q:σ ⊕ ρ→Prop} (Inv:Nat→σ→Prop) (hn:n < 4611686018427387904) (h0:Inv 0 s0)
  (step:∀ (i:Nat) (s:σ),i < n→Inv i s→ay (f i s) (QM (Inv (i+1)) fun r=>Q (.inr r))) (hQ:∀ s,Inv n s→Q (.inl s)):ay (aG (n:Int) f s0) Q:=by
 obtain ⟨o,h1,h2⟩:=wA (n:=n) (s0:=s0) (f:=f) Inv (fun r=>Q (.inr r)) hn h0 step
 refine ⟨o,h1,?_⟩
 cases o with
 | inl s=>exact hQ s h2
 | inr r=>exact h2
theorem ay.iter {σ ρ:Type} {f:σ→Option (σ ⊕ ρ)} {s0:σ} {Q:ρ→Prop} (Inv:σ→Prop) (m:σ→Nat) (h0:Inv s0)
 (step:∀ s,Inv s→ay (f s) (QM (fun s'=>Inv s'∧m s' < m s) Q)):ay (Go.Proofs.YtcmmhbmgpflmeaaGreatDoor.iter f s0) Q:=Ku (f:=f) Inv Q m step s0 h0
theorem ay.idx {α:Type} {l:List α} {n:Int} {Q:α→Prop} (h0:0≤n) (h1:n < l.length) (h:∀ hi:n.toNat < l.length,Q l[n.toNat]):ay (zf l n) Q:=by
 obtain ⟨hi,e⟩:=jg h0 h1
 exact ⟨_,e,h hi⟩
theorem jo {α:Type} {bI:Nat} {l m:List α} (h:(l.length+m.length)*bI≤140737488355328):zN bI l m=some (l++m):=by unfold zN;rw [if_pos h]
def Aj {α σ ρ:Type} (F:α→σ→Option (σ ⊕ ρ)):List α→σ→Option (σ ⊕ ρ)
 | [],s=>some (.inl s)
 | x::r,s=>match F x s with
  | none=>none
  | some (.inr y)=>some (.inr y)
  | some (.inl s')=>Aj F r s'
theorem JP {α σ ρ:Type} {f:Nat→σ→Option (σ ⊕ ρ)} {F:α→σ→Option (σ ⊕ ρ)}:∀ (l:List α) (i:Nat) (s:σ),(∀ (j:Nat) (hj:j < l.length) (s:σ),f (i+j) s=F l[j] s)→ck f i l.length s=Aj F l s
 | [],i,s,h=>rfl
 | x::r,i,s,h=>by
  have h0:=h 0 (by simp) s
  simp only [Nat.add_zero,List.getElem_cons_zero] at h0
  simp only [ur,ck,Aj,h0]
  have ih:∀ s',ck f (i+1) r.length s'=Aj F r s':=fun s'=>JP r (i+1) s' (f:=f) (F:=F) fun j hj s=>by
   have:=h (j+1) (by simpa using hj) s
   simp only [List.getElem_cons_succ] at this
   rw [←this];congr 1;omega
  cases F x s with
  | none=>rfl
  | some o=>
   cases o with
   | inl s'=>exact ih s'
   | inr y=>rfl
theorem Pt {α σ ρ:Type} {f:Nat→σ→Option (σ ⊕ ρ)} {F:α→σ→Option (σ ⊕ ρ)} (l:List α) (hl:l.length < 4611686018427387904) (h:∀ (j:Nat) (hj:j < l.length) (s:σ),f j s=F l[j] s) (s:σ):aG (l.length:Int) f s=Aj F l s:=by
 rw [Qz (by omega)]
 have:=JP l 0 s (f:=f) (F:=F) (fun j hj s=>by rw [Nat.zero_add];exact h j hj s)
 simpa using this
def Zc (n:Int):Int→List Int→Bool
 | _,[]=>true
 | a,x::r=>(!decide (x≤a) && !decide (n≤x))&&Zc n x r
def Ef:Int→List Int→Int
 | a,[]=>a
 | _,x::r=>Ef x r
theorem HT (n:Int) (l:List Int) (hl:l.length < 4611686018427387904) (a:Int):aG (σ:=Int) (ρ:=Unit) (l.length:Int) (fun i1 s1=>(uK (zf l (i1:Int)) fun e1=>(uK (bif decide (e1≤s1) then some true else some (decide (n≤e1))) fun v1=>(bif v1 then some (.inr ()) else some (.inl e1))))) a=some (bif Zc n a l then .inl (Ef a l) else .inr ()):=by
 rw [Pt (F:=fun x s=>bif (decide (x≤s)||decide (n≤x)) then some (.inr ()) else some (.inl x)) l hl (fun j hj s=>by
  simp only [z7,uf hj,aS,zx,Bool.cond_true_left])]
 clear hl
 induction l generalizing a with
 | nil=>rfl
 | cons x r ih=>
  simp only [Aj,Zc,Ef]
  cases decide (x≤a)<;>cases decide (n≤x)<;>simp [ih]
theorem Kv {n:Int}:∀ {a:Int} {l:List Int},Zc n a l=true→(∀ x∈l,a < x∧x < n)∧l.Pairwise (· < ·)
 | a,[],_=>⟨fun x hx=>(by cases hx),List.Pairwise.nil⟩
 | a,x::r,h=>by
  simp only [Zc,uh,uA,decide_eq_false_iff_not] at h
  obtain ⟨⟨h1,h2⟩,h3⟩:=h
  obtain ⟨h4,h5⟩:=Kv h3
  refine ⟨fun y hy => ?_,uz.2 ⟨fun y hy=>(h4 y hy).1,h5⟩⟩
  rcases un.1 hy with rfl | hy
  ·exact ⟨by omega,by omega⟩
  ·have:=h4 y hy;exact ⟨by omega,this.2⟩
theorem HU {n:Int}:∀ {a:Int} {l:List Int},Zc n a l=true→(l.length:Int)≤0∨a+l.length < n
 | a,[],_=>.inl (by simp)
 | a,x::r,h=>by
  simp only [Zc,uh,uA,decide_eq_false_iff_not] at h
  obtain ⟨⟨h1,h2⟩,h3⟩:=h
  rcases HU h3 with h4 | h4
  ·simp only [ur];omega
  ·simp only [ur];omega
theorem Kw {l:List Int} (h:l.Pairwise (· < ·)):l.Nodup:=h.imp fun h=>by omega
structure Gm where
 n:Nat
 own:Nat→Bool
 lost:Nat→Bool
 succ:Nat→List Nat
def Attr (G:Gm):Nat→Nat→Prop
 | 0,i=>G.lost i=true
 | k+1,i=>G.lost i=true∨(G.own i=true∧∀ t∈G.succ i,Attr G k t)∨(G.own i=false∧∃ t∈G.succ i,Attr G k t)
theorem Attr.zero {G:Gm} {i:Nat} (h:G.lost i=true):∀ k,Attr G k i
 | 0=>h
 | k+1=>.inl h
theorem Attr.ij {G:Gm}:∀ {k i:Nat},Attr G k i→Attr G (k+1) i
 | 0,i,h=>.inl h
 | k+1,i,h=>by
  rcases h with h | ⟨h1,h2⟩ | ⟨h1,t,h2,h3⟩
  ·exact .inl h
  ·exact .inr (.inl ⟨h1,fun t ht=>(h2 t ht).ij⟩)
  ·exact .inr (.inr ⟨h1,t,h2,h3.ij⟩)
theorem Attr.mono {G:Gm} {k k' i:Nat} (hk:k≤k') (h:Attr G k i):Attr G k' i:=by
 induction hk with
 | refl=>exact h
 | step _ ih=>exact ih.ij
def JQ (G:Gm) (r:Nat→Int):Prop:=∀ i,i < G.n → -1≤r i∧∀ k:Nat,(r i ≠ -1∧r i≤k)↔Attr G k i
structure dP (G:Gm) (r:Nat→Int):Prop where
 ge:∀ i,i < G.n → -1≤r i
 zero:∀ i,i < G.n→(G.lost i=true↔r i=0)
 mQ:∀ i,i < G.n→G.own i=true→G.lost i=false→r i ≠ -1→(∀ t∈G.succ i,r t ≠ -1∧r t+1≤r i)∧((G.succ i=[]∧r i=1)∨∃ t∈G.succ i,r i=r t+1)
 nM:∀ i,i < G.n→G.own i=true→G.lost i=false→r i = -1→∃ t∈G.succ i,r t = -1
 oJ:∀ i,i < G.n→G.own i=false→G.lost i=false→r i ≠ -1→(∃ t∈G.succ i,r t ≠ -1∧r i=r t+1)∧∀ t∈G.succ i,r t ≠ -1→r i≤r t+1
 lA:∀ i,i < G.n→G.own i=false→G.lost i=false→r i = -1→∀ t∈G.succ i,r t = -1
theorem dP.to {G:Gm} {r:Nat→Int} (dY:∀ i,i < G.n→∀ t∈G.succ i,t < G.n) (h:dP G r):∀ (k i:Nat),i < G.n→r i ≠ -1→r i≤k→Attr G k i
 | 0,i,hi,h1,h2=>(h.zero i hi).2 (by have:=h.ge i hi;omega)
 | k+1,i,hi,h1,h2=>by
  cases hl:G.lost i with
  | true=>exact Attr.zero hl _
  | false=>
   cases ho:G.own i with
   | true=>
    refine .inr (.inl ⟨ho,fun t ht => ?_⟩)
    obtain ⟨h3,h4⟩:=(h.mQ i hi ho hl h1).1 t ht
    exact dP.to dY h k t (dY i hi t ht) h3 (by omega)
   | false=>
    obtain ⟨⟨t,ht,h3,h4⟩,_⟩:=h.oJ i hi ho hl h1
    exact .inr (.inr ⟨ho,t,ht,dP.to dY h k t (dY i hi t ht) h3 (by omega)⟩)
theorem dP.from {G:Gm} {r:Nat→Int} (dY:∀ i,i < G.n→∀ t∈G.succ i,t < G.n) (h:dP G r):∀ (k i:Nat),i < G.n→Attr G k i→r i ≠ -1∧r i≤k
 | 0,i,hi,h1=>by have:=(h.zero i hi).1 h1;omega
 | k+1,i,hi,h1=>by
  cases hl:G.lost i with
  | true=>have:=(h.zero i hi).1 hl;omega
  | false=>
   rcases h1 with h1 | ⟨ho,h2⟩ | ⟨ho,t,ht,h2⟩
   ·rw [hl] at h1;cases h1
   ·have hn:r i ≠ -1:=fun e=>by
     obtain ⟨t,ht,h3⟩:=h.nM i hi ho hl e
     exact (dP.from dY h k t (dY i hi t ht) (h2 t ht)).1 h3
    refine ⟨hn,?_⟩
    rcases (h.mQ i hi ho hl hn).2 with ⟨_,h3⟩ | ⟨t,ht,h3⟩
    ·omega
    ·have:=(dP.from dY h k t (dY i hi t ht) (h2 t ht)).2;omega
   ·obtain ⟨h3,h4⟩:=dP.from dY h k t (dY i hi t ht) h2
    have hn:r i ≠ -1:=fun e=>h3 (h.lA i hi ho hl e t ht)
    exact ⟨hn,by have:=(h.oJ i hi ho hl hn).2 t ht h3;omega⟩
theorem dP.ok {G:Gm} {r:Nat→Int} (dY:∀ i,i < G.n→∀ t∈G.succ i,t < G.n) (h:dP G r):JQ G r:=fun i hi=>
 ⟨h.ge i hi,fun k=>⟨fun ⟨h1,h2⟩=>h.to dY k i hi h1 h2,fun h1=>h.from dY k i hi h1⟩⟩
def upd {α:Type} (f:Nat→α) (i:Nat) (x:α):Nat→α:=fun j=>if j=i then x else f j
theorem qy {α:Type} (f:Nat→α) (i:Nat) (x:α):upd f i x i=x:=if_pos rfl
theorem z1 {α:Type} {f:Nat→α} {i j:Nat} {x:α} (h:j≠i):upd f i x j=f j:=if_neg h
theorem Jg {p q:Nat→Bool} {t:Nat}:∀ {l:List Nat},(∀ x,q x=true→p x=true)→t∈l→p t=true→q t=false→l.countP q < l.countP p
 | x::l,Eg,ht,hp,hq=>by
  have hle:l.countP q≤l.countP p:=List.countP_mono_left fun x _=>Eg x
  rcases un.1 ht with rfl | ht
  ·rw [uc (by simp [hq]),ua hp];omega
  ·have:=Jg Eg ht hp hq
   by_cases h:q x=true
   ·rw [ua h,ua (Eg x h)];omega
   ·rw [uc h]
    by_cases h2:p x=true
    ·rw [ua h2];omega
    ·rw [uc h2];exact this
def yn (P:List Nat) (t:Nat):Bool := !(P.contains t)
theorem yo {P:List Nat} {t:Nat}:yn P t=true↔t ∉ P:=by simp [yn]
theorem QN {P:List Nat} {u:Nat} (hu:u ∉ P):∀ l:List Nat,l.countP (yn P)=l.countP (yn (P++[u]))+l.count u
 | []=>rfl
 | x::l=>by
  have ih:=QN hu l
  by_cases hx:x=u
  ·subst hx
   rw [ua (yo.2 hu),uc (by simp [yn]),List.count_cons_self];omega
  ·rw [List.count_cons_of_ne hx]
   by_cases hp:x∈P
   ·rw [uc (by simp [yn,hp]),uc (by simp [yn,hp])];exact ih
   ·rw [ua (yo.2 hp),ua (yo.2 (by simp [hp,hx]))];omega
structure Core (G:Gm) (r o:Nat→Int) (K P:List Nat) (c:Nat→Nat):Prop where
 nd:K.Nodup
 lt:∀ x∈K,x < G.n
 mem:∀ i,i < G.n→(i∈K↔r i ≠ -1)
 ge:∀ i,i < G.n → -1≤r i
 mono:K.Pairwise (fun a b=>r a≤r b)
 op:∀ i,i < G.n→o i+c i=((G.succ i).countP (yn P):Int)
 zero:∀ i,i < G.n→(G.lost i=true↔r i=0)
 mQ:∀ i,i < G.n→G.own i=true→G.lost i=false→r i ≠ -1→o i=0∧(∀ t∈G.succ i,r t ≠ -1∧r t+1≤r i)∧((G.succ i=[]∧r i=1)∨∃ t∈G.succ i,r i=r t+1)
 nM:∀ i,i < G.n→G.own i=true→G.lost i=false→r i = -1→o i≠0
 oJ:∀ i,i < G.n→G.own i=false→G.lost i=false→r i ≠ -1→(∃ t∈G.succ i,r t ≠ -1∧r i=r t+1)∧∀ t∈G.succ i,r t ≠ -1→r i≤r t+1
 lA:∀ i,i < G.n→G.own i=false→G.lost i=false→r i = -1→(∀ t∈G.succ i,t ∉ P)∧c i=0
structure l5 (G:Gm) (r o:Nat→Int) (P Q:List Nat):Prop where
 core:Core G r o (P++Q) P fun _=>0
 top:∀ q Q',Q=q::Q'→∀ x∈P++Q,r x≤r q+1
structure fL (G:Gm) (r o:Nat→Int) (P:List Nat) (u:Nat) (Q:List Nat) (c:Nat→Nat):Prop where
 core:Core G r o (P++u::Q) P c
 top:∀ x∈P++u::Q,r x≤r u+1
 le:∀ i,i < G.n→c i≤(G.succ i).count u
theorem l5.enter {G:Gm} {r o:Nat→Int} {P Q:List Nat} {u:Nat} (h:l5 G r o P (u::Q)):fL G r o P u Q fun _=>0:=
 ⟨h.core,h.top u Q rfl,fun _ _=>uD _⟩
theorem Core.split {G:Gm} {r o:Nat→Int} {P Q:List Nat} {u:Nat} {c:Nat→Nat} (h:Core G r o (P++u::Q) P c):u ∉ P∧u < G.n∧r u ≠ -1∧(∀ x∈P,r x≤r u)∧(∀ x∈Q,r u≤r x):=by
 have hu:u∈P++u::Q:=by simp
 obtain ⟨h1,h2,h3⟩:=uw.1 h.mono
 refine ⟨fun hp => ?_,h.lt u hu,(h.mem u (h.lt u hu)).1 hu,fun x hx=>h3 x hx u (by simp),(uz.1 h2).1⟩
 exact (uB.1 h.nd).2.2 u hp u (by simp) rfl
theorem fL.leave {G:Gm} {r o:Nat→Int} {P Q:List Nat} {u:Nat} {c:Nat→Nat} (h:fL G r o P u Q c) (hc:∀ i,i < G.n→c i=(G.succ i).count u):l5 G r o (P++[u]) Q:=by
 obtain ⟨hu,hun,Cv,hP,hQ⟩:=h.core.split
 have hl:P++[u]++Q=P++u::Q:=by simp
 refine ⟨?_,fun q Q' hq x hx => ?_⟩
 ·rw [hl]
  have C:=h.core
  refine {C with op:=fun i hi => ?_,lA:=fun i hi ho hlo hr => ?_}
  ·have:=C.op i hi
   rw [QN hu,hc i hi] at this
   omega
  ·obtain ⟨h1,h2⟩:=C.lA i hi ho hlo hr
   refine ⟨fun t ht hp => ?_,rfl⟩
   rcases uk.1 hp with hp | hp
   ·exact h1 t ht hp
   ·have:t=u:=by simpa using hp
    subst this
    have:=hc i hi
    rw [h2] at this
    exact List.count_eq_zero.1 this.symm ht
 ·rw [hl] at hx
  have h1:=h.top x hx
  have h2:=hQ q (by rw [hq];simp)
  omega
theorem fL.room {G:Gm} {r o:Nat→Int} {P Q:List Nat} {u:Nat} {c:Nat→Nat} (h:fL G r o P u Q c) {i:Nat} (hi:i < G.n) (hc:c i < (G.succ i).count u):0 < o i:=by
 have h1:=h.core.op i hi
 rw [QN h.core.split.1] at h1
 omega
theorem fL.skip {G:Gm} {r o:Nat→Int} {P Q:List Nat} {u:Nat} {c:Nat→Nat} (h:fL G r o P u Q c) {i:Nat} (hi:i < G.n) (hc:c i < (G.succ i).count u) (hs:r i ≠ -1∨(G.own i=true∧o i - 1≠0)) :
  fL G r (upd o i (o i - 1)) P u Q (upd c i (c i+1)):=by
 have hroom:=h.room hi hc
 have C:=h.core
 refine ⟨{C with op:=fun j hj => ?_,mQ:=fun j hj ho hl hr => ?_,nM:=fun j hj ho hl hr => ?_,lA:=fun j hj ho hl hr => ?_},h.top,fun j hj => ?_⟩
 ·by_cases e:j=i
  ·subst e;rw [qy,qy];have:=C.op j hj;omega
  ·rw [z1 e,z1 e];exact C.op j hj
 ·obtain ⟨h1,h2⟩:=C.mQ j hj ho hl hr
  by_cases e:j=i
  ·subst e;omega
  ·rw [z1 e];exact ⟨h1,h2⟩
 ·by_cases e:j=i
  ·subst e;rw [qy]
   rcases hs with hs | ⟨_,hs⟩
   ·exact absurd hr hs
   ·exact hs
  ·rw [z1 e];exact C.nM j hj ho hl hr
 ·by_cases e:j=i
  ·subst e
   rcases hs with hs | ⟨hs,_⟩
   ·exact absurd hr hs
   ·rw [ho] at hs;cases hs
  ·rw [z1 e];exact C.lA j hj ho hl hr
 ·by_cases e:j=i
  ·subst e;rw [qy];exact hc
  ·rw [z1 e];exact h.le j hj
theorem fL.settle {G:Gm} (dY:∀ i,i < G.n→∀ t∈G.succ i,t < G.n) {r o:Nat→Int} {P Q:List Nat} {u:Nat} {c:Nat→Nat} (h:fL G r o P u Q c) {i:Nat} (hi:i < G.n) (hc:c i < (G.succ i).count u) (hr:r i = -1) (hs:G.own i=false∨o i - 1=0) :
  fL G (upd r i (r u+1)) (upd o i (o i - 1)) P u (Q++[i]) (upd c i (c i+1)):=by
 have hroom:=h.room hi hc
 obtain ⟨hu,hun,Cv,hP,hQ⟩:=h.core.split
 have C:=h.core
 have Pu:0≤r u:=by have:=C.ge u hun;omega
 have hne:∀ x∈P++u::Q,x≠i:=fun x hx e=>by subst e;exact (C.mem x hi).1 hx hr
 have oK:u≠i:=hne u (by simp)
 have hl:P++u::(Q++[i])=(P++u::Q)++[i]:=by simp
 have lG:G.lost i=false:=by
  cases hx:G.lost i with
  | false=>rfl
  | true=>have:=(C.zero i hi).1 hx;omega
 have hmem:u∈G.succ i:=List.count_pos_iff.1 (by omega)
 refine ⟨?_,?_,?_⟩
 ·rw [hl]
  refine ⟨?_,?_,?_,?_,?_,?_,?_,?_,?_,?_,?_⟩
  ·exact uB.2 ⟨C.nd,by simp,fun a ha b hb=>by have:b=i:=by simpa using hb
                                              subst this;exact hne a ha⟩
  ·intro x hx
   rcases uk.1 hx with hx | hx
   ·exact C.lt x hx
   ·have:x=i:=by simpa using hx
    subst this;exact hi
  ·intro j hj
   by_cases e:j=i
   ·subst e;rw [qy];simp;omega
   ·rw [z1 e,←C.mem j hj];simp [e]
  ·intro j hj
   by_cases e:j=i
   ·subst e;rw [qy];omega
   ·rw [z1 e];exact C.ge j hj
  ·refine uw.2 ⟨C.mono.imp_of_mem fun {a b} ha hb hab=>by rw [z1 (hne a ha),z1 (hne b hb)];exact hab,by simp,fun a ha b hb => ?_⟩
   have:b=i:=by simpa using hb
   subst this
   rw [qy,z1 (hne a ha)];exact h.top a ha
  ·intro j hj
   by_cases e:j=i
   ·subst e;rw [qy,qy];have:=C.op j hj;omega
   ·rw [z1 e,z1 e];exact C.op j hj
  ·intro j hj
   by_cases e:j=i
   ·subst e;rw [qy,lG];constructor
    ·intro hx;cases hx
    ·intro hx;omega
   ·rw [z1 e];exact C.zero j hj
  ·intro j hj ho hlo gh
   by_cases e:j=i
   ·subst e
    rw [qy] at gh
    have rD:o j - 1=0:=by
     rcases hs with hs | hs
     ·rw [ho] at hs;cases hs
     ·exact hs
    rw [qy,qy]
    have hop:=C.op j hj
    have hall:∀ t∈G.succ j,t∈P∨t=u:=fun t ht=>by
     by_cases tZ:t∈P
     ·exact .inl tZ
     ·by_cases htu:t=u
      ·exact .inr htu
      ·exfalso
       have hst:=Jg (p:=yn P) (q:=fun x=>x == u) (fun x hx=>by have:x=u:=by simpa using hx
                                                               subst this;exact yo.2 hu) ht (yo.2 tZ) (by simp [htu])
       have:(G.succ j).countP (fun x=>x == u)=(G.succ j).count u:=rfl
       omega
    refine ⟨rD,fun t ht => ?_,.inr ⟨u,hmem,by rw [z1 oK]⟩⟩
    have o7:t≠j:=by
     rcases hall t ht with h1 | h1
     ·exact hne t (by simp [h1])
     ·rw [h1];exact oK
    rw [z1 o7]
    rcases hall t ht with h1 | h1
    ·exact ⟨(C.mem t (C.lt t (by simp [h1]))).1 (by simp [h1]),by have:=hP t h1;omega⟩
    ·rw [h1];exact ⟨Cv,by omega⟩
   ·rw [z1 e] at gh
    rw [z1 e,z1 e]
    obtain ⟨h1,h2,h3⟩:=C.mQ j hj ho hlo gh
    refine ⟨h1,fun t ht => ?_,?_⟩
    ·have o7:t≠i:=fun e2=>by rw [e2] at ht;exact (h2 i ht).1 hr
     rw [z1 o7];exact h2 t ht
    ·rcases h3 with h3 | ⟨t,ht,h3⟩
     ·exact .inl h3
     ·have o7:t≠i:=fun e2=>by rw [e2] at ht;exact (h2 i ht).1 hr
      exact .inr ⟨t,ht,by rw [z1 o7];exact h3⟩
  ·intro j hj ho hlo gh
   by_cases e:j=i
   ·subst e;rw [qy] at gh;omega
   ·rw [z1 e] at gh;rw [z1 e];exact C.nM j hj ho hlo gh
  ·intro j hj ho hlo gh
   by_cases e:j=i
   ·subst e
    rw [qy]
    refine ⟨⟨u,hmem,by rw [z1 oK];exact Cv,by rw [z1 oK]⟩,fun t ht Bl => ?_⟩
    by_cases e2:t=j
    ·subst e2;rw [qy];omega
    ·rw [z1 e2] at Bl ⊢
     obtain ⟨h1,_⟩:=C.lA j hj ho hlo hr
     have htk:=(C.mem t (dY j hj t ht)).2 Bl
     rcases uk.1 htk with h4 | h4
     ·exact absurd h4 (h1 t ht)
     ·rcases un.1 h4 with h4 | h4
      ·rw [h4];omega
      ·have:=hQ t h4;omega
   ·rw [z1 e] at gh
    rw [z1 e]
    obtain ⟨⟨t,ht,h1,h2⟩,h3⟩:=C.oJ j hj ho hlo gh
    have nE:=h.top j ((C.mem j hj).2 gh)
    refine ⟨?_,fun t ht Bl => ?_⟩
    ·have o7:t≠i:=fun e2=>by rw [e2] at h1;exact h1 hr
     exact ⟨t,ht,by rw [z1 o7];exact h1,by rw [z1 o7];exact h2⟩
    ·by_cases e2:t=i
     ·subst e2;rw [qy];omega
     ·rw [z1 e2] at Bl ⊢; exact h3 t ht Bl
  ·intro j hj ho hlo gh
   by_cases e:j=i
   ·subst e;rw [qy] at gh;omega
   ·rw [z1 e] at gh;rw [z1 e];exact C.lA j hj ho hlo gh
 ·rw [hl,z1 oK]
  intro x hx
  rcases uk.1 hx with hx | hx
  ·rw [z1 (hne x hx)];exact h.top x hx
  ·have:x=i:=by simpa using hx
   subst this;rw [qy];omega
 ·intro j hj
  by_cases e:j=i
  ·subst e;rw [qy];exact hc
  ·rw [z1 e];exact h.le j hj
theorem l5.done {G:Gm} {r o:Nat→Int} {P:List Nat} (dY:∀ i,i < G.n→∀ t∈G.succ i,t < G.n) (h:l5 G r o P []):dP G r:=by
 have C:=h.core
 rw [uq] at C
 refine ⟨C.ge,C.zero,fun i hi ho hl hr=>(C.mQ i hi ho hl hr).2,fun i hi ho hl hr => ?_,C.oJ,fun i hi ho hl hr t ht => ?_⟩
 ·have h1:=C.nM i hi ho hl hr
  have h2:=C.op i hi
  have h3:0 < (G.succ i).countP (yn P):=by omega
  obtain ⟨t,ht,h4⟩:=List.countP_pos_iff.1 h3
  refine ⟨t,ht,?_⟩
  by_cases e:r t = -1
  ·exact e
  ·exact absurd ((C.mem t (dY i hi t ht)).2 e) (yo.1 h4)
 ·by_cases e:r t = -1
  ·exact e
  ·exact absurd ((C.mem t (dY i hi t ht)).2 e) ((C.lA i hi ho hl hr).1 t ht)
end Go.Proofs.YtcmmhbmgpflmeaaGreatDoor
