/- Part 1 of the proof: Base, Later, Own, Own2, Ref17. Conditions: those that each theorem names. -/
import Derived.WalkKit
import Derived.WalkSpells
import Derived.WalkLawsBesides
import Derived.Lib.Hide
import Derived.Deep.QuietTactic
import Derived.BigQuiet
import Derived.Outline
import Derived.StillTailTactics
import Derived.Test.YtaemfafnmhndiaaGreatDoorProg
namespace Go.Proofs.YtaemfafnmhndiaaGreatDoor
open Go.RowKit

structure GRule where
  choice : Bool
  head : List Int
  sum : Bool
  bound : Int
  body : List Int
  w : List Int
  deriving DecidableEq, Inhabited

structure GMin where
  level : Int
  lits : List Int
  w : List Int
  deriving DecidableEq, Inhabited

structure GProg where
  n : Int
  names : List ByteArray
  shown : List Int
  rules : List GRule
  min : List GMin
  deriving Inhabited

structure Why where
  atom : Int
  rule : Int
  level : Int
  deriving DecidableEq, Inhabited

structure Expl where
  whys : List Why
  rest : List Int
  deriving DecidableEq, Inhabited

def I64 (x : Int) : Prop := -9223372036854775808 ≤ x ∧ x ≤ 9223372036854775807

/-- A slice header reads as a list whose elements stand each in `size` cells, element by element as `R` says. -/
structure IsRow {α : Type} (size : Nat) (R : World → List Value → α → Prop) (w : World) (oa : Option Addr) (len : Nat) (l : List α) : Prop where
  hlen : l.length = len
  hmax : len * size ≤ 17592186044416
  cells : 0 < len → ∃ b off, oa = some ⟨b, off, none⟩ ∧ b < w.heap.size ∧ ∀ i x, l[i]? = some x → ∃ cs : List Value, cs.length = size ∧ R w cs x ∧
    ∀ j, j < size → w.cell? ⟨b, off + (i * size + j), none⟩ = cs[j]?

/-- What an element's reading must keep. -/
def Kept {α : Type} (R : World → List Value → α → Prop) : Prop := ∀ w w' cs x, R w cs x → Below w.heap.size w w' → R w' cs x

theorem IsRow.below {α : Type} {size : Nat} {R : World → List Value → α → Prop} {w w' : World} {oa : Option Addr} {len : Nat} {l : List α}
    (hR : Kept R) (h : IsRow size R w oa len l) (hb : Below w.heap.size w w') : IsRow size R w' oa len l where
  hlen := h.hlen
  hmax := h.hmax
  cells := fun h0 => by
    obtain ⟨b, off, e, hlt, hc⟩ := h.cells h0
    refine ⟨b, off, e, Nat.lt_of_lt_of_le hlt hb.size, fun i x hx => ?_⟩
    obtain ⟨cs, hl, hr, hcell⟩ := hc i x hx
    exact ⟨cs, hl, hR _ _ _ _ hr hb, fun j hj => (hb.cell (p := ⟨b, off + (i * size + j), none⟩) hlt).trans (hcell j hj)⟩

def RInt (_ : World) (cs : List Value) (x : Int) : Prop := cs = [.int .i64 x] ∧ I64 x
theorem RInt.kept : Kept RInt := fun _ _ _ _ h _ => h

abbrev IsInts := IsRow 1 RInt

theorem IsInts.below {w w' : World} {oa : Option Addr} {len : Nat} {l : List Int} (h : IsInts w oa len l) (hb : Below w.heap.size w w') : IsInts w' oa len l :=
  IsRow.below RInt.kept h hb

theorem IsInts.at_ {w : World} {oa : Option Addr} {len k : Nat} {l : List Int} (h : IsInts w oa len l) (hk : k < len) :
    ∃ b off x, oa = some ⟨b, off, none⟩ ∧ w.cell? ⟨b, off + k, none⟩ = some (.int .i64 x) ∧ -9223372036854775808 ≤ x ∧ x ≤ 9223372036854775807 ∧ Hid (l.drop k = x :: l.drop (k + 1)) ∧ Hid (l[k]? = some x) := by
  obtain ⟨b, off, h1, _, h3⟩ := h.cells (by omega)
  have hl : k < l.length := by rw [h.hlen]; exact hk
  obtain ⟨cs, _, hr, hc⟩ := h3 k l[k] (List.getElem?_eq_getElem hl)
  obtain ⟨rfl, hr1, hr2⟩ := hr
  refine ⟨b, off, l[k], h1, ?_, hr1, hr2, List.drop_eq_getElem_cons hl, List.getElem?_eq_getElem hl⟩
  have := hc 0 (by omega)
  simpa using this

theorem IsInts.nil_ (w : World) (oa : Option Addr) : IsInts w oa 0 [] := ⟨rfl, by omega, fun h => absurd h (by omega)⟩

/-- A text in a cell. -/
def RStr (_ : World) (cs : List Value) (x : ByteArray) : Prop := cs = [.string x] ∧ x.size ≤ 140737488351232
theorem RStr.kept : Kept RStr := fun _ _ _ _ h _ => h
abbrev IsStrs := IsRow 1 RStr
theorem IsStrs.below {w w' : World} {oa : Option Addr} {len : Nat} {l : List ByteArray} (h : IsStrs w oa len l) (hb : Below w.heap.size w w') : IsStrs w' oa len l :=
  IsRow.below RStr.kept h hb
theorem IsStrs.at_ {w : World} {oa : Option Addr} {len k : Nat} {l : List ByteArray} (h : IsStrs w oa len l) (hk : k < len) :
    ∃ b off x, oa = some ⟨b, off, none⟩ ∧ w.cell? ⟨b, off + k, none⟩ = some (.string x) ∧ x.size ≤ 140737488351232 ∧ Hid (l.drop k = x :: l.drop (k + 1)) ∧ Hid (l[k]? = some x) := by
  obtain ⟨b, off, h1, _, h3⟩ := h.cells (by omega)
  have hl : k < l.length := by rw [h.hlen]; exact hk
  obtain ⟨cs, _, hr, hc⟩ := h3 k l[k] (List.getElem?_eq_getElem hl)
  obtain ⟨rfl, hr1⟩ := hr
  refine ⟨b, off, l[k], h1, ?_, hr1, List.drop_eq_getElem_cons hl, List.getElem?_eq_getElem hl⟩
  have := hc 0 (by omega)
  simpa using this

/-- A rule's six cells. -/
def RRule (w : World) (cs : List Value) (r : GRule) : Prop :=
  ∃ (oh : Option Addr) (lh ch : Nat) (ob : Option Addr) (lb cb : Nat) (ow : Option Addr) (lw cw : Nat),
    cs = [.bool r.choice, .slice oh lh ch, .bool r.sum, .int .i64 r.bound, .slice ob lb cb, .slice ow lw cw] ∧
    IsInts w oh lh r.head ∧ IsInts w ob lb r.body ∧ IsInts w ow lw r.w ∧ I64 r.bound
theorem RRule.kept : Kept RRule := by
  rintro w w' cs r ⟨oh, lh, ch, ob, lb, cb, ow, lw, cw, e, h1, h2, h3, h4⟩ hb
  exact ⟨oh, lh, ch, ob, lb, cb, ow, lw, cw, e, h1.below hb, h2.below hb, h3.below hb, h4⟩
abbrev IsRules := IsRow 6 RRule
theorem IsRules.below {w w' : World} {oa : Option Addr} {len : Nat} {l : List GRule} (h : IsRules w oa len l) (hb : Below w.heap.size w w') : IsRules w' oa len l :=
  IsRow.below RRule.kept h hb
theorem IsRules.at_ {w : World} {oa : Option Addr} {len k : Nat} {l : List GRule} (h : IsRules w oa len l) (hk : k < len) :
    ∃ (b off : Nat) (r : GRule) (oh : Option Addr) (lh ch : Nat) (ob : Option Addr) (lb cb : Nat) (ow : Option Addr) (lw cw : Nat), oa = some ⟨b, off, none⟩ ∧ b < w.heap.size ∧
      w.cell? ⟨b, off + k * 6, none⟩ = some (.bool r.choice) ∧ w.cell? ⟨b, off + k * 6 + 1, none⟩ = some (.slice oh lh ch) ∧ w.cell? ⟨b, off + k * 6 + 2, none⟩ = some (.bool r.sum) ∧
      w.cell? ⟨b, off + k * 6 + 3, none⟩ = some (.int .i64 r.bound) ∧ w.cell? ⟨b, off + k * 6 + 4, none⟩ = some (.slice ob lb cb) ∧ w.cell? ⟨b, off + k * 6 + 5, none⟩ = some (.slice ow lw cw) ∧
      IsInts w oh lh r.head ∧ IsInts w ob lb r.body ∧ IsInts w ow lw r.w ∧ I64 r.bound ∧ Hid (l.drop k = r :: l.drop (k + 1)) ∧ Hid (l[k]? = some r) := by
  obtain ⟨b, off, h1, hlt, h3⟩ := h.cells (by omega)
  have hl : k < l.length := by rw [h.hlen]; exact hk
  obtain ⟨cs, _, hr, hc⟩ := h3 k l[k] (List.getElem?_eq_getElem hl)
  obtain ⟨oh, lh, ch, ob, lb, cb, ow, lw, cw, rfl, i1, i2, i3, i4⟩ := hr
  exact ⟨b, off, l[k], oh, lh, ch, ob, lb, cb, ow, lw, cw, h1, hlt, by simpa [Nat.add_assoc] using hc 0 (by omega), by simpa [Nat.add_assoc] using hc 1 (by omega), by simpa [Nat.add_assoc] using hc 2 (by omega), by simpa [Nat.add_assoc] using hc 3 (by omega),
    by simpa [Nat.add_assoc] using hc 4 (by omega), by simpa [Nat.add_assoc] using hc 5 (by omega), i1, i2, i3, i4, List.drop_eq_getElem_cons hl, List.getElem?_eq_getElem hl⟩

/-- A level's three cells. -/
def RMin (w : World) (cs : List Value) (m : GMin) : Prop :=
  ∃ (ol : Option Addr) (ll cl : Nat) (ow : Option Addr) (lw cw : Nat),
    cs = [.int .i64 m.level, .slice ol ll cl, .slice ow lw cw] ∧ IsInts w ol ll m.lits ∧ IsInts w ow lw m.w ∧ I64 m.level
theorem RMin.kept : Kept RMin := by
  rintro w w' cs r ⟨oh, lh, ch, ob, lb, cb, e, h1, h2, h4⟩ hb
  exact ⟨oh, lh, ch, ob, lb, cb, e, h1.below hb, h2.below hb, h4⟩
abbrev IsMins := IsRow 3 RMin
theorem IsMins.below {w w' : World} {oa : Option Addr} {len : Nat} {l : List GMin} (h : IsMins w oa len l) (hb : Below w.heap.size w w') : IsMins w' oa len l :=
  IsRow.below RMin.kept h hb
theorem IsMins.at_ {w : World} {oa : Option Addr} {len k : Nat} {l : List GMin} (h : IsMins w oa len l) (hk : k < len) :
    ∃ (b off : Nat) (r : GMin) (ol : Option Addr) (ll cl : Nat) (ow : Option Addr) (lw cw : Nat), oa = some ⟨b, off, none⟩ ∧ b < w.heap.size ∧
      w.cell? ⟨b, off + k * 3, none⟩ = some (.int .i64 r.level) ∧ w.cell? ⟨b, off + k * 3 + 1, none⟩ = some (.slice ol ll cl) ∧ w.cell? ⟨b, off + k * 3 + 2, none⟩ = some (.slice ow lw cw) ∧
      IsInts w ol ll r.lits ∧ IsInts w ow lw r.w ∧ I64 r.level ∧ Hid (l.drop k = r :: l.drop (k + 1)) ∧ Hid (l[k]? = some r) := by
  obtain ⟨b, off, h1, hlt, h3⟩ := h.cells (by omega)
  have hl : k < l.length := by rw [h.hlen]; exact hk
  obtain ⟨cs, _, hr, hc⟩ := h3 k l[k] (List.getElem?_eq_getElem hl)
  obtain ⟨oh, lh, ch, ob, lb, cb, rfl, i1, i2, i4⟩ := hr
  exact ⟨b, off, l[k], oh, lh, ch, ob, lb, cb, h1, hlt, by simpa [Nat.add_assoc] using hc 0 (by omega), by simpa [Nat.add_assoc] using hc 1 (by omega), by simpa [Nat.add_assoc] using hc 2 (by omega),
    i1, i2, i4, List.drop_eq_getElem_cons hl, List.getElem?_eq_getElem hl⟩

/-- An element of an explanation: three cells. -/
def RWhy (_ : World) (cs : List Value) (y : Why) : Prop := cs = [.int .i64 y.atom, .int .i64 y.rule, .int .i64 y.level] ∧ I64 y.atom ∧ I64 y.rule ∧ I64 y.level
theorem RWhy.kept : Kept RWhy := fun _ _ _ _ h _ => h
abbrev IsWhys := IsRow 3 RWhy
theorem IsWhys.below {w w' : World} {oa : Option Addr} {len : Nat} {l : List Why} (h : IsWhys w oa len l) (hb : Below w.heap.size w w') : IsWhys w' oa len l :=
  IsRow.below RWhy.kept h hb
theorem IsWhys.at_ {w : World} {oa : Option Addr} {len k : Nat} {l : List Why} (h : IsWhys w oa len l) (hk : k < len) :
    ∃ (b off : Nat) (y : Why), oa = some ⟨b, off, none⟩ ∧ b < w.heap.size ∧
      w.cell? ⟨b, off + k * 3, none⟩ = some (.int .i64 y.atom) ∧ w.cell? ⟨b, off + k * 3 + 1, none⟩ = some (.int .i64 y.rule) ∧ w.cell? ⟨b, off + k * 3 + 2, none⟩ = some (.int .i64 y.level) ∧
      I64 y.atom ∧ I64 y.rule ∧ I64 y.level ∧ Hid (l.drop k = y :: l.drop (k + 1)) ∧ Hid (l[k]? = some y) := by
  obtain ⟨b, off, h1, hlt, h3⟩ := h.cells (by omega)
  have hl : k < l.length := by rw [h.hlen]; exact hk
  obtain ⟨cs, _, hr, hc⟩ := h3 k l[k] (List.getElem?_eq_getElem hl)
  obtain ⟨rfl, i1, i2, i4⟩ := hr
  exact ⟨b, off, l[k], h1, hlt, by simpa [Nat.add_assoc] using hc 0 (by omega), by simpa [Nat.add_assoc] using hc 1 (by omega), by simpa [Nat.add_assoc] using hc 2 (by omega),
    i1, i2, i4, List.drop_eq_getElem_cons hl, List.getElem?_eq_getElem hl⟩

/-- A program by value: its five fields. -/
structure IsProg (w : World) (n : Int) (on : Option Addr) (ln : Nat) (os : Option Addr) (ls : Nat) (or : Option Addr) (lr : Nat) (om : Option Addr) (lm : Nat) (p : GProg) : Prop where
  hn : n = p.n
  i64 : I64 p.n
  names : IsStrs w on ln p.names
  shown : IsInts w os ls p.shown
  rules : IsRules w or lr p.rules
  min : IsMins w om lm p.min
theorem IsProg.below {w w' : World} {n : Int} {on : Option Addr} {ln : Nat} {os : Option Addr} {ls : Nat} {or : Option Addr} {lr : Nat} {om : Option Addr} {lm : Nat} {p : GProg}
    (h : IsProg w n on ln os ls or lr om lm p) (hb : Below w.heap.size w w') : IsProg w' n on ln os ls or lr om lm p :=
  ⟨h.hn, h.i64, h.names.below hb, h.shown.below hb, h.rules.below hb, h.min.below hb⟩

/-- An explanation by value. -/
structure IsExpl (w : World) (ow : Option Addr) (lw : Nat) (or : Option Addr) (lr : Nat) (x : Expl) : Prop where
  whys : IsWhys w ow lw x.whys
  rest : IsInts w or lr x.rest
theorem IsExpl.below {w w' : World} {ow : Option Addr} {lw : Nat} {or : Option Addr} {lr : Nat} {x : Expl}
    (h : IsExpl w ow lw or lr x) (hb : Below w.heap.size w w') : IsExpl w' ow lw or lr x := ⟨h.whys.below hb, h.rest.below hb⟩

/-- A quiet callee met behind draws that were there before. -/
theorem quiet_at {P : Program} {f : FuncId} {args : Array Value} {w : World} {m n : Nat} {v : Value}
    (h : Calls P f args (w.drewN (m + n)) fun e w' => e = .returned v ∧ ∃ q, w' = (w.drewN (m + n)).drewN q) : Calls P f args (w.drewN (m + n)) fun e w'' => e = .returned v ∧ ∃ q, w'' = w.drewN (m + q) :=
  h.mono fun _ _ ⟨he, q, hq⟩ => ⟨he, n + q, by rw [hq, World.drewN_drewN, Nat.add_assoc]⟩

theorem IsRow.drewN {α : Type} {size : Nat} {R : World → List Value → α → Prop} {w : World} {oa : Option Addr} {len : Nat} {l : List α}
    (hR : Kept R) (h : IsRow size R w oa len l) (m : Nat) : IsRow size R (w.drewN m) oa len l := IsRow.below hR h ⟨rfl, rfl, rfl, Nat.le_refl _, fun _ _ => rfl⟩
theorem below_drewN (w : World) (m : Nat) : Below w.heap.size w (w.drewN m) := ⟨rfl, rfl, rfl, Nat.le_refl _, fun _ _ => rfl⟩

theorem below_alloc (w : World) (o : Obj) : Below w.heap.size w (w.alloc o) := (Below.refl _ _).alloc (Nat.le_refl _) _
theorem IsRow.alloc {α : Type} {size : Nat} {R : World → List Value → α → Prop} {w : World} {oa : Option Addr} {len : Nat} {l : List α}
    (hR : Kept R) (h : IsRow size R w oa len l) (o : Obj) : IsRow size R (w.alloc o) oa len l := IsRow.below hR h (below_alloc w o)
theorem IsInts.alloc {w : World} {oa : Option Addr} {len : Nat} {l : List Int} (h : IsInts w oa len l) (o : Obj) : IsInts (w.alloc o) oa len l := IsRow.alloc RInt.kept h o
theorem IsInts.drewN {w : World} {oa : Option Addr} {len : Nat} {l : List Int} (h : IsInts w oa len l) (m : Nat) : IsInts (w.drewN m) oa len l := IsRow.drewN RInt.kept h m

theorem below_drewN_of {B : Nat} {a w : World} (h : Below B a w) (m : Nat) : Below B a (w.drewN m) := ⟨h.os, h.tape, h.output, h.size, h.block⟩
theorem below_alloc_of {a w : World} (h : Below a.heap.size a w) (o : Obj) : Below a.heap.size a (w.alloc o) := h.alloc h.size o
theorem below_set_of {a w : World} (h : Below a.heap.size a w) (b o : Nat) (u : Value) (hb : a.heap.size ≤ b) : Below a.heap.size a (w.setCell ⟨b, o, none⟩ u) := h.setCell (p := ⟨b, o, none⟩) hb u
theorem below_drawn {B : Nat} {wr w1 : World} {d : Nat} (h : Below B { heap := wr.heap, tape := wr.tape, drawn := d, os := wr.os, output := wr.output } w1) : Below B wr w1 := ⟨h.os, h.tape, h.output, h.size, h.block⟩
theorem below_trans_of {a w w' : World} (h : Below a.heap.size a w) (h' : Below w.heap.size w w') : Below a.heap.size a w' := h.trans (h'.mono h.size)

/-- The box that a call laid first, in a later world. -/
theorem box_cells {w wr : World} {cs : Array Value} {T : TypeId} (hb : Below (w.heap.size + 1) (w.alloc (.cells cs T)) wr) : ∀ j, wr.cell? ⟨w.heap.size, j, none⟩ = cs[j]? := by
  intro j
  rw [hb.cell (p := ⟨w.heap.size, j, none⟩) (by simp)]
  simp
theorem box_below {w wr : World} {o : Obj} (hb : Below (w.heap.size + 1) (w.alloc o) wr) : Below w.heap.size w wr := (below_alloc w o).trans (hb.mono (by simp))

/-- The slot that an operation's guard looks at. -/
def guardSlot (ops : Array Oper) (o : Oper) : Option Nat := match o.guard with
  | some (j, _) => (ops[j]?).bind (·.dst)
  | none => none
theorem split_guard {P : Program} {ops : Array Oper} {C : World → Prop} {Q : Act → Prop} {a : Act} {o : Oper} {rest : List Oper} {d : Nat} {b : Bool} (_ : guardSlot ops o = some d) (_ : a.tmps.getD d undef = .bool b)
    (ht : b = true → wpQuiet P ops C Q (o :: rest) a) (hf : b = false → wpQuiet P ops C Q (o :: rest) a) : wpQuiet P ops C Q (o :: rest) a := by
  cases b
  · exact hf rfl
  · exact ht rfl

theorem IsInts.of_cells {w : World} {b off len : Nat} {l : List Int} (hl : l.length = len) (hm : len ≤ 17592186044416) (hb : b < w.heap.size)
    (hc : ∀ i x, l[i]? = some x → w.cell? ⟨b, off + i, none⟩ = some (.int .i64 x)) (hr : ∀ x ∈ l, I64 x) : IsInts w (some ⟨b, off, none⟩) len l where
  hlen := hl
  hmax := by omega
  cells := fun _ => ⟨b, off, rfl, hb, fun i x hx => ⟨[.int .i64 x], rfl, ⟨rfl, hr x (List.mem_of_getElem? hx)⟩, fun j hj => by
    obtain rfl : j = 0 := by omega
    simpa using hc i x hx⟩⟩

theorem IsInts.fresh {W : World} {b len : Nat} {l : List Int} {cs : Array Value} {T : TypeId} (hb : b = W.heap.size) (hl : l.length = len) (hm : len ≤ 17592186044416) (hcs : cs.toList = l.map (Value.int .i64))
    (hr : ∀ x ∈ l, I64 x) : IsInts (W.alloc (.cells cs T)) (some ⟨b, 0, none⟩) len l := by
  subst hb
  refine IsInts.of_cells hl hm (by simp) (fun i x hx => ?_) hr
  have : cs[i]? = some (.int .i64 x) := by rw [← Array.getElem?_toList, hcs, List.getElem?_map, hx]; rfl
  simpa using this

theorem ret_bool {a b : Bool} (h : a = b) : Ending.returned (.bool a) = .returned (.bool b) := by rw [h]
theorem ret_int {k : IntKind} {a b : Int} (h : a = b) : Ending.returned (.int k a) = .returned (.int k b) := by rw [h]

/-- Old cells and old marks behind a call that leaves the old blocks alone. -/
theorem oldCell {W w1 : World} (hb : Below W.heap.size W w1) : ∀ b o, b < W.heap.size → w1.cell? ⟨b, o, none⟩ = W.cell? ⟨b, o, none⟩ :=
  fun b o h => hb.cell (p := ⟨b, o, none⟩) h
theorem oldFrozen {W w1 : World} (hb : Below W.heap.size W w1) : ∀ b o, b < W.heap.size → w1.frozen? ⟨b, o, none⟩ = W.frozen? ⟨b, o, none⟩ :=
  fun b o h => hb.frozen (p := ⟨b, o, none⟩) h
end Go.Proofs.YtaemfafnmhndiaaGreatDoor
namespace Go.Proofs.YtaemfafnmhndiaaGreatDoor
open Go.RowKit

/-- Any world in which all that lay in `w` lies unturned. -/
structure Later (w : World) where
  world : World
  below : Below w.heap.size w world
instance laterNonempty (w : World) : Nonempty (Later w) := ⟨⟨w, Below.refl _ _⟩⟩
def later (w : World) (x : Later w) : World := x.world
theorem later_below (w : World) (x : Later w) : Below w.heap.size w (later w x) := x.below
theorem later_cell {w : World} {b o : Nat} {v : Value} (hb : b < w.heap.size) (h : w.cell? ⟨b, o, none⟩ = some v) (x : Later w) : (later w x).cell? ⟨b, o, none⟩ = some v :=
  ((later_below w x).cell (p := ⟨b, o, none⟩) hb).trans h
theorem cell_lt {w : World} {b o : Nat} {v : Value} (h : w.cell? ⟨b, o, none⟩ = some v) : b < w.heap.size := by
  unfold World.cell? at h
  rcases Nat.lt_or_ge b w.heap.size with c | c
  · exact c
  · simp [Array.getElem?_eq_none c] at h
theorem laterC {w : World} {b o : Nat} {v : Value} (h : w.cell? ⟨b, o, none⟩ = some v) : ∀ x, (later w x).cell? ⟨b, o, none⟩ = some v := later_cell (cell_lt h) h
theorem laterA {w : World} {b : Nat} {f : Nat → Option Value} (hb : b < w.heap.size) (h : ∀ o, w.cell? ⟨b, o, none⟩ = f o) : ∀ x o, (later w x).cell? ⟨b, o, none⟩ = f o :=
  fun x o => ((later_below w x).cell (p := ⟨b, o, none⟩) hb).trans (h o)

theorem wp_region_later {P : Program} {id : Nat} {Q : Exit → Act → World → Prop} {a : Act} {w : World} {l : List Oper} (hm : P.follows .mixedOrders = true) (hB : Region.lexB .any l.toArray = true)
    (h : wpQuiet P l.toArray (fun w' => ∃ x, w' = later w x) (fun a' => ∀ w', Below w.heap.size w w' → Q .normal a' w') l a) : (Code.region id l.toArray true).wp P Q a w := by
  refine wp_region_quiet (C := fun w' => ∃ x, w' = later w x) hm hB ⟨⟨{ w with drawn := w.drawn + 1 }, ⟨rfl, rfl, rfl, Nat.le_refl _, fun _ _ => rfl⟩⟩, rfl⟩ ?_
  have e : (fun a' : Act => ∀ w', Below w.heap.size w w' → Q .normal a' w') = (fun a' => ∀ w', (∃ x, w' = later w x) → Q .normal a' w') := by
    funext a'
    apply propext
    exact ⟨fun h w' ⟨x, hx⟩ => h w' (hx ▸ later_below w x), fun h w' hb => h w' ⟨⟨w', hb⟩, rfl⟩⟩
  rw [e] at h
  simpa using h

/-- A callee that leaves old memory alone. -/
theorem call_later {P : Program} {f : FuncId} {args : Array Value} {w : World} {x : Later w} {v : Value}
    (h : Calls P f args (later w x) fun e w' => e = .returned v ∧ Below (later w x).heap.size (later w x) w') : Calls P f args (later w x) fun e w'' => e = .returned v ∧ ∃ y, w'' = later w y :=
  h.mono fun _ w'' ⟨he, hb⟩ => ⟨he, ⟨w'', (later_below w x).trans (hb.mono (later_below w x).size)⟩, rfl⟩
theorem call_quiet {P : Program} {f : FuncId} {args : Array Value} {w : World} {x : Later w} {v : Value}
    (h : Calls P f args (later w x) fun e w' => e = .returned v ∧ ∃ m, w' = (later w x).drewN m) : Calls P f args (later w x) fun e w'' => e = .returned v ∧ ∃ y, w'' = later w y :=
  h.mono fun _ w'' ⟨he, m, hb⟩ => ⟨he, ⟨w'', by rw [hb]; exact below_drewN_of (later_below w x) m⟩, rfl⟩
end Go.Proofs.YtaemfafnmhndiaaGreatDoor
namespace Go.Proofs.YtaemfafnmhndiaaGreatDoor
open Go.RowKit

theorem flat_at {α : Type} (enc : α → List Value) (size : Nat) : ∀ (l : List α), (∀ x ∈ l, (enc x).length = size) → ∀ (i j : Nat) (x : α), l[i]? = some x → j < size → (l.flatMap enc)[i * size + j]? = (enc x)[j]?
  | [], _, i, j, x, h, _ => by simp at h
  | y :: l, hl, 0, j, x, h, hj => by
    simp only [List.getElem?_cons_zero, Option.some.injEq] at h
    subst h
    rw [List.flatMap_cons, Nat.zero_mul, Nat.zero_add, List.getElem?_append_left (by rw [hl y (by simp)]; exact hj)]
  | y :: l, hl, i + 1, j, x, h, hj => by
    simp only [List.getElem?_cons_succ] at h
    have ih := flat_at enc size l (fun z hz => hl z (by simp [hz])) i j x h hj
    have hy := hl y (by simp)
    rw [List.flatMap_cons, List.getElem?_append_right (by rw [hy, Nat.add_mul]; omega), hy, ← ih]
    congr 1; rw [Nat.add_mul]; omega

theorem IsRow.of_own {α : Type} {size : Nat} {R : World → List Value → α → Prop} (enc : α → List Value) {w : World} {base : Nat} {e : TypeId} {v : Value} {n : Nat} {l : List α} (_hsz : 0 < size)
    (h : w.ownsRow base e size v n (l.flatMap enc)) (hlen : l.length = n) (henc : ∀ x ∈ l, (enc x).length = size) (hR : ∀ x ∈ l, R w (enc x) x) (hmax : n * size ≤ 17592186044416) :
    ∃ oa cap, v = .slice oa n cap ∧ IsRow size R w oa n l := by
  rcases h.2 with ⟨rfl, rfl⟩ | ⟨g, cap, cur, rfl, hg, hh, hn, hc, hs, ht⟩
  · exact ⟨none, 0, rfl, hlen, by omega, fun h => absurd h (by omega)⟩
  · refine ⟨_, cap, rfl, hlen, hmax, fun _ => ⟨g, 0, rfl, ?_, fun i x hx => ⟨enc x, henc x (List.mem_of_getElem? hx), hR x (List.mem_of_getElem? hx), fun j hj => ?_⟩⟩⟩
    · rcases Nat.lt_or_ge g w.heap.size with c | c
      · exact c
      · rw [Array.getElem?_eq_none c] at hh; cases hh
    · rw [Nat.zero_add]
      have hi : i < n := by rw [← hlen]; exact (List.getElem?_eq_some_iff.1 hx).1
      have hlt : i * size + j < n * size := by
        have : (i + 1) * size ≤ n * size := Nat.mul_le_mul_right _ hi
        rw [Nat.add_mul] at this; omega
      rw [h.cellAt _ hlt]
      exact flat_at enc size l henc i j x hx hj

def cellI (x : Int) : List Value := [.int .i64 x]
def cellsW (y : Why) : List Value := [.int .i64 y.atom, .int .i64 y.rule, .int .i64 y.level]
def OkWhy (y : Why) : Prop := I64 y.atom ∧ I64 y.rule ∧ I64 y.level
theorem flat_cellI (l : List Int) : l.flatMap cellI = l.map (Value.int .i64) := by
  induction l with
  | nil => rfl
  | cons x l ih => rw [List.flatMap_cons, ih]; rfl

/-- A row of numbers, a row of elements of an explanation, that the call itself made. -/
def OwnI (w : World) (base : Nat) (oa : Option Addr) (n cap : Nat) (l : List Int) : Prop :=
  w.ownsRow base 3 1 (.slice oa n cap) n (l.map (Value.int .i64)) ∧ l.length = n ∧ (∀ x ∈ l, I64 x) ∧ n ≤ 17592186044416
def OwnW (w : World) (base : Nat) (oa : Option Addr) (n cap : Nat) (l : List Why) : Prop :=
  w.ownsRow base 49 3 (.slice oa n cap) n (l.flatMap cellsW) ∧ l.length = n ∧ (∀ x ∈ l, OkWhy x) ∧ n * 3 ≤ 17592186044416
theorem OwnI.ints {w : World} {base : Nat} {oa : Option Addr} {n cap : Nat} {l : List Int} (h : OwnI w base oa n cap l) : IsInts w oa n l := by
  obtain ⟨h1, h2, h3, h4⟩ := h
  rw [← flat_cellI] at h1
  obtain ⟨oa', cap', hv, hr⟩ := IsRow.of_own (R := RInt) cellI (by decide) h1 h2 (fun _ _ => rfl) (fun x hx => ⟨rfl, h3 x hx⟩) (by omega)
  obtain ⟨rfl, _⟩ : oa = oa' ∧ cap = cap' := by simpa using hv
  exact hr
theorem OwnW.whys {w : World} {base : Nat} {oa : Option Addr} {n cap : Nat} {l : List Why} (h : OwnW w base oa n cap l) : IsWhys w oa n l := by
  obtain ⟨h1, h2, h3, h4⟩ := h
  obtain ⟨oa', cap', hv, hr⟩ := IsRow.of_own (R := RWhy) cellsW (by decide) h1 h2 (fun _ _ => rfl) (fun x hx => ⟨rfl, h3 x hx⟩) h4
  obtain ⟨rfl, _⟩ : oa = oa' ∧ cap = cap' := by simpa using hv
  exact hr
theorem own_below {w w' : World} {base B : Nat} {e : TypeId} {size : Nat} {v : Value} {n : Nat} {xs : List Value} (h : w.ownsRow base e size v n xs) (hb : Below B w w') (hB : ∀ g, v.ownBlock = some g → g < B) : w'.ownsRow base e size v n xs := by
  obtain ⟨h1, h2⟩ := h
  refine ⟨h1, h2.imp id ?_⟩
  rintro ⟨g, cap, cur, rfl, hg, hh, r⟩
  exact ⟨g, cap, cur, rfl, hg, (hb.block g (hB g rfl)).trans hh, r⟩
theorem OwnI.below {w w' : World} {base : Nat} {oa : Option Addr} {n cap : Nat} {l : List Int} (h : OwnI w base oa n cap l) (hb : Below w.heap.size w w') : OwnI w' base oa n cap l :=
  ⟨own_below h.1 hb fun g hg => (h.1.lt g hg).2, h.2⟩
theorem OwnW.below {w w' : World} {base : Nat} {oa : Option Addr} {n cap : Nat} {l : List Why} (h : OwnW w base oa n cap l) (hb : Below w.heap.size w w') : OwnW w' base oa n cap l :=
  ⟨own_below h.1 hb fun g hg => (h.1.lt g hg).2, h.2⟩
theorem OwnI.grown {w w' : World} {base : Nat} {oa : Option Addr} {n cap : Nat} {l : List Int} {row : Option Nat} (h : OwnI w base oa n cap l) (hg : w.grownBy w' row) (hne : (Value.slice oa n cap).ownBlock = none ∨ (Value.slice oa n cap).ownBlock ≠ row) : OwnI w' base oa n cap l :=
  ⟨h.1.kept hg hne, h.2⟩
theorem OwnW.grown {w w' : World} {base : Nat} {oa : Option Addr} {n cap : Nat} {l : List Why} {row : Option Nat} (h : OwnW w base oa n cap l) (hg : w.grownBy w' row) (hne : (Value.slice oa n cap).ownBlock = none ∨ (Value.slice oa n cap).ownBlock ≠ row) : OwnW w' base oa n cap l :=
  ⟨h.1.kept hg hne, h.2⟩
/-- Rows of different types lie apart. -/
theorem own_apart {w : World} {base base' : Nat} {e e' : TypeId} {size size' n n' : Nat} {v v' : Value} {xs xs' : List Value} (h : w.ownsRow base e size v n xs) (h' : w.ownsRow base' e' size' v' n' xs') (hne : e ≠ e') :
    v.ownBlock = none ∨ v.ownBlock ≠ v'.ownBlock := by
  rcases h.2 with ⟨rfl, _⟩ | ⟨g, cap, cur, rfl, _, hh, _⟩
  · left; rfl
  · right
    rcases h'.2 with ⟨rfl, _⟩ | ⟨g', cap', cur', rfl, _, hh', _⟩
    · simp [Value.ownBlock]
    · intro he
      have : g = g' := by simpa [Value.ownBlock] using he
      subst this
      rw [hh] at hh'
      injection hh' with hh'
      injection hh' with _ ht
      exact hne ht
/-- A block known whole, and a row of another type, lie apart. -/
theorem own_ne_block {w : World} {base : Nat} {e t : TypeId} {size n g : Nat} {v : Value} {xs : List Value} {cs : Array Value} {fr : Nat × Nat} (h : w.ownsRow base e size v n xs) (hg : w.heap[g]? = some (.cells cs t fr)) (hne : e ≠ t) : v.ownBlock ≠ some g := by
  rcases h.2 with ⟨rfl, _⟩ | ⟨g', cap, cur, rfl, _, hh, _⟩
  · simp [Value.ownBlock]
  · intro he
    have : g' = g := by simpa [Value.ownBlock] using he
    subst this
    rw [hh] at hg
    injection hg with hg
    injection hg with _ ht
    exact hne ht
theorem OwnI.nil_ (w : World) (base : Nat) : OwnI w base none 0 0 [] := ⟨⟨rfl, .inl ⟨rfl, rfl⟩⟩, rfl, by simp, by omega⟩
theorem OwnW.nil_ (w : World) (base : Nat) : OwnW w base none 0 0 [] := ⟨⟨rfl, .inl ⟨rfl, rfl⟩⟩, rfl, by simp, by omega⟩
theorem infoWhy : (Tryz.prog.info? 49).map (fun i => (i.zero, i.size, i.bytes)) = some (some (.agg #[.int .i64 0, .int .i64 0, .int .i64 0]), 3, 24) := by kernel_rfl
theorem infoInt : (Tryz.prog.info? 3).map (fun i => (i.zero, i.size, i.bytes)) = some (some (.int .i64 0), 1, 8) := by kernel_rfl
end Go.Proofs.YtaemfafnmhndiaaGreatDoor
namespace Go.Proofs.YtaemfafnmhndiaaGreatDoor
open Go.RowKit

theorem own_form {w : World} {base : Nat} {e : TypeId} {size n : Nat} {v : Value} {xs : List Value} (h : w.ownsRow base e size v n xs) : ∃ oa cap, v = .slice oa n cap := by
  rcases h.2 with ⟨rfl, rfl⟩ | ⟨g, cap, cur, rfl, _⟩
  · exact ⟨none, 0, rfl⟩
  · exact ⟨_, cap, rfl⟩
theorem cellsW_one (y : Why) : ∀ u ∈ cellsW y, u.oneCell' = true := by
  intro u hu
  simp [cellsW] at hu
  rcases hu with rfl | rfl | rfl <;> rfl

theorem wpList_append_why {w : World} {ops : Array Oper} {rest : List Oper} {o : Oper} {a : Act} {Q : Exit → Act → World → Prop} (hgd : o.guard = none) (s x : Operand)
    (ho : o.op = .call { callee := .builtin .append, args := #[s, x], argTypes := #[28, 28] })
    (base : Nat) (oa : Option Addr) (n cap : Nat) (l : List Why) (y : Why) (hs : a.eval s = .slice oa n cap) (hown : OwnW w base oa n cap l) (ad : Addr) (c : Nat) (hx : a.eval x = .slice (some ad) 1 c)
    (hcells : ∀ j u, (cellsW y)[j]? = some u → w.cell? (ad.add j) = some u) (hy : OkWhy y) (hn : n ≤ 5000000) (hbase : base ≤ w.heap.size)
    (h : ∀ oa' cap' w', OwnW w' base oa' (n + 1) cap' (l ++ [y]) → w.grownBy w' (Value.slice oa n cap).ownBlock → wpList Tryz.prog ops Q rest (a.put o.dst (.slice oa' (n + 1) cap')) w') : wpList Tryz.prog ops Q (o :: rest) a w := by
  obtain ⟨i, hi, hz0, hz1, hz2⟩ := info_parts infoWhy
  obtain ⟨ho1, ho2, ho3, ho4⟩ := hown
  refine wpList_append_own w hgd s x 28 ho base 49 i _ 3 24 Tryz.underlying28 hi hz0 hz1 hz2 rfl (by decide) (.slice oa n cap) n (l.flatMap cellsW) hs ho1 ad 1 c (cellsW y) hx rfl hcells (cellsW_one y) (by unfold maxLen; omega) (by omega) hbase ?_
  intro v' w' hown' hgrow _
  obtain ⟨oa', cap', rfl⟩ := own_form hown'
  refine h oa' cap' w' ⟨?_, by simp [ho2], ?_, by omega⟩ hgrow
  · rw [List.flatMap_append, List.flatMap_cons, List.flatMap_nil, List.append_nil]; exact hown'
  · intro z hz
    rcases List.mem_append.1 hz with hz | hz
    · exact ho3 z hz
    · rw [List.mem_singleton.1 hz]; exact hy

theorem wpList_append_whys {w : World} {ops : Array Oper} {rest : List Oper} {o : Oper} {a : Act} {Q : Exit → Act → World → Prop} (hgd : o.guard = none) (s x : Operand)
    (ho : o.op = .call { callee := .builtin .append, args := #[s, x], argTypes := #[28, 28] })
    (base base2 : Nat) (oa oa2 : Option Addr) (n cap n2 cap2 : Nat) (l l2 : List Why) (hs : a.eval s = .slice oa n cap) (hown : OwnW w base oa n cap l) (hx : a.eval x = .slice oa2 n2 cap2)
    (hown2 : OwnW w base2 oa2 n2 cap2 l2) (h2 : 0 < n2) (hn : n + n2 ≤ 5000000) (hbase : base ≤ w.heap.size)
    (h : ∀ oa' cap' w', OwnW w' base oa' (n + n2) cap' (l ++ l2) → w.grownBy w' (Value.slice oa n cap).ownBlock → wpList Tryz.prog ops Q rest (a.put o.dst (.slice oa' (n + n2) cap')) w') : wpList Tryz.prog ops Q (o :: rest) a w := by
  obtain ⟨i, hi, hz0, hz1, hz2⟩ := info_parts infoWhy
  obtain ⟨ho1, ho2, ho3, ho4⟩ := hown
  obtain ⟨hp1, hp2, hp3, hp4⟩ := hown2
  have hg2 : ∃ g, oa2 = some ⟨g, 0, none⟩ := by
    rcases hp1.2 with ⟨_, h0⟩ | ⟨g, cap, cur, he, _⟩
    · omega
    · exact ⟨g, by simpa using (Value.slice.inj he).1⟩
  obtain ⟨g2, rfl⟩ := hg2
  refine wpList_append_own w hgd s x 28 ho base 49 i _ 3 24 Tryz.underlying28 hi hz0 hz1 hz2 rfl (by decide) (.slice oa n cap) n (l.flatMap cellsW) hs ho1 ⟨g2, 0, none⟩ n2 cap2 (l2.flatMap cellsW) hx hp1.1 (hp1.cells rfl) ?_ (by unfold maxLen; omega) (by omega) hbase ?_
  · intro u hu
    obtain ⟨y, _, hy⟩ := List.mem_flatMap.1 hu
    exact cellsW_one y u hy
  intro v' w' hown' hgrow _
  obtain ⟨oa', cap', rfl⟩ := own_form hown'
  refine h oa' cap' w' ⟨?_, by simp [ho2, hp2], ?_, by omega⟩ hgrow
  · rw [List.flatMap_append]; exact hown'
  · intro z hz
    rcases List.mem_append.1 hz with hz | hz
    · exact ho3 z hz
    · exact hp3 z hz

theorem wpList_append_int {w : World} {ops : Array Oper} {rest : List Oper} {o : Oper} {a : Act} {Q : Exit → Act → World → Prop} (hgd : o.guard = none) (s x : Operand)
    (ho : o.op = .call { callee := .builtin .append, args := #[s, x], argTypes := #[23, 23] })
    (base : Nat) (oa : Option Addr) (n cap : Nat) (l : List Int) (y : Int) (hs : a.eval s = .slice oa n cap) (hown : OwnI w base oa n cap l) (ad : Addr) (c : Nat) (hx : a.eval x = .slice (some ad) 1 c)
    (hcells : w.cell? ad = some (.int .i64 y)) (hy : I64 y) (hn : n + 1 ≤ 17592186044416) (hbase : base ≤ w.heap.size)
    (h : ∀ oa' cap' w', OwnI w' base oa' (n + 1) cap' (l ++ [y]) → w.grownBy w' (Value.slice oa n cap).ownBlock → wpList Tryz.prog ops Q rest (a.put o.dst (.slice oa' (n + 1) cap')) w') : wpList Tryz.prog ops Q (o :: rest) a w := by
  obtain ⟨i, hi, hz0, hz1, hz2⟩ := info_parts infoInt
  obtain ⟨ho1, ho2, ho3, ho4⟩ := hown
  refine wpList_append_own w hgd s x 23 ho base 3 i _ 1 8 Tryz.underlying23 hi hz0 hz1 hz2 rfl (by decide) (.slice oa n cap) n (l.map (Value.int .i64)) hs ho1 ad 1 c [.int .i64 y] hx rfl ?_ (by intro u hu; simp at hu; subst hu; rfl) (by unfold maxLen; omega) (by omega) hbase ?_
  · intro j u hj
    match j, hj with
    | 0, hj =>
      simp at hj; subst hj
      rw [← hcells]
      congr 1
  intro v' w' hown' hgrow _
  obtain ⟨oa', cap', rfl⟩ := own_form hown'
  refine h oa' cap' w' ⟨?_, by simp [ho2], ?_, by omega⟩ hgrow
  · simpa using hown'
  · intro z hz
    rcases List.mem_append.1 hz with hz | hz
    · exact ho3 z hz
    · rw [List.mem_singleton.1 hz]; exact hy
end Go.Proofs.YtaemfafnmhndiaaGreatDoor
namespace Go.Proofs.YtaemfafnmhndiaaGreatDoor
open Go.RowKit

def inB : List Int → Int → Bool
  | [], _ => false
  | y :: l, x => if y = x then true else inB l x

set_option maxHeartbeats 400000 in
theorem in_any (w : World) (oa : Option Addr) (len cap : Nat) (l : List Int) (x : Int) (h : IsInts w oa len l) :
    Calls Tryz.prog 65 #[.slice oa len cap, .int .i64 x] w fun e w' => e = .returned (.bool (inB l x)) ∧ ∃ m, w' = w.drewN m := by
  have hm := h.hmax
  have hl' := Lib.hid h.hlen
  go_enter Tryz.func65, Tryz.ntmps65
  go_wp2
  go_loop [5] (fun i => ∃ k : Nat, k ≤ len ∧ i = .int .i64 k ∧ Hid (inB l x = inB (l.drop k) x)) (fun i => len - (intOf i).toNat)
  case atStart => exact ⟨0, Nat.zero_le _, rfl, rfl⟩
  case round =>
    obtain ⟨k, hk, rfl, hno⟩ := hrel
    by_cases hlt : k < len
    · obtain ⟨b, off, y, rfl, hc, hr1, hr2, hd, _⟩ := h.at_ hlt
      by_cases hy : y = x
      · subst hy
        go_wp2
        go_ret
        exact ⟨by rw [hno.out, hd.out]; simp [inB], 0, rfl⟩
      · have hy' : (y == x) = false := by simpa using hy
        go_wp2
        go_round
        case rel => exact ⟨k+1, by omega, by go_num, by rw [Hid, hno.out, hd.out]; simp [inB, hy]⟩
        case measure => simp [intOf]; omega
    · go_wp2
      go_ret
      exact ⟨by rw [hno.out, List.drop_eq_nil_of_le (by rw [hl'.out]; omega)]; rfl, 0, rfl⟩

def atomOf (x : Int) : Int := if x < 0 then -x else x

set_option maxHeartbeats 400000 in
theorem atom_any (w : World) (x : Int) (h1 : -9223372036854775808 < x) (h2 : x ≤ 9223372036854775807) :
    Calls Tryz.prog 182 #[.int .i64 x] w fun e w' => e = .returned (.int .i64 (atomOf x)) ∧ ∃ m, w' = w.drewN m := by
  unfold atomOf
  by_cases hx : x < 0
  · rw [if_pos hx]
    go_enter Tryz.func182, Tryz.ntmps182
    go_wp2
    go_ret
    exact ⟨rfl, 0, rfl⟩
  · rw [if_neg hx]
    go_enter Tryz.func182, Tryz.ntmps182
    go_wp2
    go_ret
    exact ⟨rfl, 0, rfl⟩

def beforeB (a b : Int) : Bool := decide (atomOf a < atomOf b) || (atomOf a == atomOf b && decide (b < a))

set_option maxHeartbeats 400000 in
theorem before_any (w : World) (a b : Int) (h1 : -9223372036854775808 < a) (h2 : a ≤ 9223372036854775807) (h3 : -9223372036854775808 < b) (h4 : b ≤ 9223372036854775807) :
    Calls Tryz.prog 143 #[.int .i64 a, .int .i64 b] w fun e w' => e = .returned (.bool (beforeB a b)) ∧ ∃ m, w' = w.drewN m := by
  go_enter Tryz.func143, Tryz.ntmps143
  go_wp2_with (go_at_call 182; refine (atom_any _ _ (by omega) (by omega)).mono ?_; rintro e w' ⟨rfl, m, rfl⟩)
  all_goals (go_ret; exact ⟨ret_bool (by grind [beforeB]), _, rfl⟩)

/-- Strictly increasing literals, each in range; `prev`: the one before. -/
def litsGo (n : Int) : Option Int → List Int → Bool
  | _, [] => true
  | prev, x :: l => if x = 0 ∨ n < x ∨ x < -n then false else match prev with
    | some p => if beforeB p x then litsGo n (some x) l else false
    | none => litsGo n (some x) l

def prevOf (l : List Int) (k : Nat) : Option Int := if k = 0 then none else l[k-1]?
theorem prevOf_succ (l : List Int) (k : Nat) : prevOf l (k + 1) = l[k]? := rfl

set_option maxHeartbeats 400000 in
theorem lits_any (w : World) (oa : Option Addr) (len cap : Nat) (l : List Int) (n : Int) (h : IsInts w oa len l) (hn1 : 0 ≤ n) (hn2 : n ≤ 4000) :
    Calls Tryz.prog 101 #[.slice oa len cap, .int .i64 n] w fun e w' => e = .returned (.bool (litsGo n none l)) ∧ ∃ m, w' = w.drewN m := by
  have hm := h.hmax
  have hl' := Lib.hid h.hlen
  go_enter Tryz.func101, Tryz.ntmps101
  go_wp2
  go_loopw [5] (fun i wr => ∃ k m : Nat, wr = w.drewN m ∧ k ≤ len ∧ i = .int .i64 k ∧ Hid (litsGo n none l = litsGo n (prevOf l k) (l.drop k)) ∧ Hid (∀ p, prevOf l k = some p → -n ≤ p ∧ p ≤ n)) (fun i _ => len - (intOf i).toNat)
  case atStart => exact ⟨0, 0, rfl, Nat.zero_le _, rfl, rfl, by simp [prevOf, Hid]⟩
  case round =>
    obtain ⟨k, m, rfl, hk, rfl, hno, Hb⟩ := hrel
    by_cases hlt : k < len
    · obtain ⟨b, off, y, rfl, hc, hr1, hr2, hd, hg⟩ := h.at_ hlt
      have hgo := hno.out
      rw [hd.out] at hgo
      clear hno
      by_cases hy : y = 0 ∨ n < y ∨ y < -n
      · have hfin := Lib.hid (hgo.trans (by simp [litsGo, hy]) : litsGo n none l = false)
        clear hgo
        rcases hy with rfl | hy | hy
        all_goals
          go_wp2
          go_ret
          exact ⟨ret_bool hfin.out.symm, m, rfl⟩
      · have Hgo := Lib.hid hgo
        have hy0 : (y == 0) = false := by simp; omega
        have hy1 : y ≤ n := by omega
        have hy2 : -n ≤ y := by omega
        have Hy := Lib.hid hy
        clear hgo hy
        rcases k with _ | k
        · simp only [Nat.add_zero] at hc
          go_wp2
          go_quiet (fail)
          go_wp2
          go_roundw
          case rel => exact ⟨1, _, rfl, by omega, by go_num, by rw [Hid, Hgo.out]; simp only [litsGo, prevOf_succ, hg.out]; rw [if_neg Hy.out]; simp [prevOf], fun p hp => by simp [prevOf_succ, hg.out] at hp; omega⟩
          case measure => simp [intOf]; omega
        · obtain ⟨b', off', p, he, hcp, hp1, hp2, hdp, hgp⟩ := h.at_ (k := k) (by omega)
          obtain ⟨rfl, rfl⟩ : b = b' ∧ off = off' := by simpa using he
          clear he
          have hpb := Hb.out p (by rw [prevOf_succ, hgp.out])
          go_wp2
          have g1 : decide ((0:Int) < (k:Int) + 1) = true := by simp
          have e2 : (0:Int) ≤ k := by omega
          have e3 : (k:Int) < len := by omega
          have e4 : (0:Int) ≤ k + 1 := by omega
          have e5 : (k:Int) + 1 < len := by omega
          have e6 : ((k:Int) + 1).toNat = k + 1 := by omega
          go_quiet ((go_at_call 143; (refine quiet_at (before_any _ _ _ ?_ ?_ ?_ ?_) <;> omega)))
          cases hbf : (!beforeB p y)
          · go_wp2
            go_roundw
            case rel => exact ⟨k + 1 + 1, _, rfl, by omega, by go_num, by rw [Hid, Hgo.out]; simp only [litsGo, prevOf_succ, hg.out, hgp.out]; rw [if_neg Hy.out]; simp [show beforeB p y = true by simpa using hbf], fun p hp => by simp [prevOf_succ, hg.out] at hp; omega⟩
            case measure => simp [intOf]; omega
          · have hbf' : beforeB p y = false := by simpa using hbf
            go_wp2
            go_ret
            exact ⟨ret_bool (by rw [Hgo.out]; simp only [litsGo, prevOf_succ, hgp.out]; rw [if_neg Hy.out]; simp [hbf']), _, World.drewN_drewN _ _ _⟩
    · go_wp2
      go_ret
      exact ⟨ret_bool (by rw [hno.out, List.drop_eq_nil_of_le (by rw [hl'.out]; omega)]; cases prevOf l k <;> rfl), m, rfl⟩
/-- Strictly increasing atoms of 1 to n; `prev`: the one before. -/
def atomsGo (n : Int) : Option Int → List Int → Bool
  | _, [] => true
  | prev, x :: l => if x < 1 ∨ n < x then false else match prev with
    | some p => if x ≤ p then false else atomsGo n (some x) l
    | none => atomsGo n (some x) l

set_option maxHeartbeats 400000 in
theorem atoms_any (w : World) (oa : Option Addr) (len cap : Nat) (l : List Int) (n : Int) (h : IsInts w oa len l) :
    Calls Tryz.prog 67 #[.slice oa len cap, .int .i64 n] w fun e w' => e = .returned (.bool (atomsGo n none l)) ∧ ∃ m, w' = w.drewN m := by
  have hm := h.hmax
  have hl' := Lib.hid h.hlen
  go_enter Tryz.func67, Tryz.ntmps67
  go_wp2
  go_loopw [5] (fun i wr => ∃ k m : Nat, wr = w.drewN m ∧ k ≤ len ∧ i = .int .i64 k ∧ Hid (atomsGo n none l = atomsGo n (prevOf l k) (l.drop k))) (fun i _ => len - (intOf i).toNat)
  case atStart => exact ⟨0, 0, rfl, Nat.zero_le _, rfl, rfl⟩
  case round =>
    obtain ⟨k, m, rfl, hk, rfl, hno⟩ := hrel
    by_cases hlt : k < len
    · obtain ⟨b, off, y, rfl, hc, hr1, hr2, hd, hg⟩ := h.at_ hlt
      have hgo := hno.out
      rw [hd.out] at hgo
      clear hno
      have e2 : (0:Int) ≤ k := by omega
      have e3 : (k:Int) < len := by omega
      by_cases hy1 : y < 1
      · have hfin := Lib.hid (hgo.trans (by simp [atomsGo, hy1]) : atomsGo n none l = false)
        clear hgo
        have t1 : decide (y < 1) = true := by simpa using hy1
        go_wp2
        go_quiet (fail)
        go_wp2
        go_ret
        exact ⟨ret_bool hfin.out.symm, _, World.drewN_drewN _ _ _⟩
      have t1 : decide (y < 1) = false := by simpa using hy1
      by_cases hy2 : n < y
      · have hfin := Lib.hid (hgo.trans (by simp [atomsGo, hy2]) : atomsGo n none l = false)
        clear hgo
        have t2 : decide (n < y) = true := by simpa using hy2
        go_wp2
        go_quiet (fail)
        go_wp2
        go_ret
        exact ⟨ret_bool hfin.out.symm, _, World.drewN_drewN _ _ _⟩
      have t2 : decide (n < y) = false := by simpa using hy2
      have Hgo := Lib.hid hgo
      have Hy := Lib.hid (show ¬ (y < 1 ∨ n < y) by omega)
      clear hgo
      rcases k with _ | k
      · simp only [Nat.add_zero] at hc
        go_wp2
        go_quiet (fail)
        go_wp2
        go_roundw
        case rel => exact ⟨1, _, rfl, by omega, by go_num, by rw [Hid, Hgo.out]; simp only [atomsGo, prevOf_succ, hg.out]; rw [if_neg Hy.out]; simp [prevOf]⟩
        case measure => simp [intOf]; omega
      · obtain ⟨b', off', p, he, hcp, hp1, hp2, hdp, hgp⟩ := h.at_ (k := k) (by omega)
        obtain ⟨rfl, rfl⟩ : b = b' ∧ off = off' := by simpa using he
        clear he
        have g1 : decide ((0:Int) < (k:Int) + 1) = true := by simp
        have f2 : (0:Int) ≤ k := by omega
        have f3 : (k:Int) < len := by omega
        have e6 : ((k:Int) + 1).toNat = k + 1 := by omega
        by_cases hbf : y ≤ p
        · have t3 : decide (y ≤ p) = true := by simpa using hbf
          go_wp2
          go_quiet (fail)
          go_wp2
          go_ret
          exact ⟨ret_bool (by rw [Hgo.out]; simp only [atomsGo, prevOf_succ, hgp.out]; rw [if_neg Hy.out]; simp [hbf]), _, World.drewN_drewN _ _ _⟩
        · have t3 : decide (y ≤ p) = false := by simpa using hbf
          have Hbf := Lib.hid hbf
          clear hbf
          go_wp2
          go_quiet (fail)
          go_wp2
          go_roundw
          case rel => exact ⟨k + 1 + 1, _, rfl, by omega, by go_num, by rw [Hid, Hgo.out]; simp only [atomsGo, prevOf_succ, hg.out, hgp.out]; rw [if_neg Hy.out, if_neg (by simpa using t3)]⟩
          case measure => simp [intOf]; omega
    · go_wp2
      go_ret
      exact ⟨ret_bool (by rw [hno.out, List.drop_eq_nil_of_le (by rw [hl'.out]; omega)]; cases prevOf l k <;> rfl), m, rfl⟩

/-- The sum of weights, or -1. -/
def totalGo (least : Int) : Int → List Int → Int
  | s, [] => s
  | s, x :: l => if x < least ∨ 1048576 < x then -1 else if 1048576 < s + x then -1 else totalGo least (s + x) l

set_option maxHeartbeats 400000 in
theorem total_any (w : World) (oa : Option Addr) (len cap : Nat) (l : List Int) (least : Int) (h : IsInts w oa len l) (h0 : 0 ≤ least) :
    Calls Tryz.prog 102 #[.slice oa len cap, .int .i64 least] w fun e w' => e = .returned (.int .i64 (totalGo least 0 l)) ∧ ∃ m, w' = w.drewN m := by
  have hm := h.hmax
  have hl' := Lib.hid h.hlen
  go_enter Tryz.func102, Tryz.ntmps102
  go_wp2
  go_loop [5, 6] (fun s i => ∃ (k : Nat) (S : Int), k ≤ len ∧ i = .int .i64 k ∧ s = .int .i64 S ∧ 0 ≤ S ∧ S ≤ 1048576 ∧ Hid (totalGo least 0 l = totalGo least S (l.drop k))) (fun _ i => len - (intOf i).toNat)
  case atStart => exact ⟨0, 0, Nat.zero_le _, rfl, rfl, by omega, by omega, rfl⟩
  case round =>
    obtain ⟨k, S, hk, rfl, rfl, hS0, hS1, hno⟩ := hrel
    by_cases hlt : k < len
    · obtain ⟨b, off, y, rfl, hc, hr1, hr2, hd, hg⟩ := h.at_ hlt
      have hgo := hno.out
      rw [hd.out] at hgo
      have Hgo := Lib.hid hgo
      clear hno hgo
      by_cases hy1 : y < least
      · go_wp2
        go_ret
        exact ⟨ret_int (by rw [Hgo.out]; simp [totalGo, hy1]), 0, rfl⟩
      by_cases hy2 : 1048576 < y
      · go_wp2
        go_ret
        exact ⟨ret_int (by rw [Hgo.out]; simp [totalGo, hy2]), 0, rfl⟩
      by_cases hy3 : 1048576 < S + y
      · go_wp2
        go_ret
        exact ⟨ret_int (by rw [Hgo.out]; simp only [totalGo]; rw [if_neg (by omega), if_pos (by omega)]), 0, rfl⟩
      go_wp2
      go_round
      case rel => exact ⟨k+1, S + y, by omega, by go_num, rfl, by omega, by omega, by rw [Hid, Hgo.out]; simp only [totalGo]; rw [if_neg (by omega), if_neg (by omega)]⟩
      case measure => simp [intOf]; omega
    · go_wp2
      go_ret
      exact ⟨ret_int (by rw [hno.out, List.drop_eq_nil_of_le (by rw [hl'.out]; omega)]; rfl), 0, rfl⟩
end Go.Proofs.YtaemfafnmhndiaaGreatDoor
