/- Part 8 of the proof: Law1, Law2, Awake1, Support3, Plain1, Plain2. Conditions: those that each theorem names. -/
import Derived.Test.YtaemfafnmhndiaaGreatDoorPb7
import Derived.Laws.MakeOwn
namespace Go.Proofs.YtaemfafnmhndiaaGreatDoor
open Go.RowKit

theorem eq_drop {α : Type} [DecidableEq α] {a b : List α} {k : Nat} {x y : α} (h1 : a.drop k = x :: a.drop (k + 1)) (h2 : b.drop k = y :: b.drop (k + 1)) : decide (a.drop k = b.drop k) = (decide (x = y) && decide (a.drop (k + 1) = b.drop (k + 1))) := by
  rw [h1, h2]; simp

set_option maxRecDepth 100000 in
set_option maxHeartbeats 2000000 in
theorem ints_any (w : World) (oa : Option Addr) (la ca : Nat) (a : List Int) (ob : Option Addr) (lb cb : Nat) (b : List Int) (ha : IsInts w oa la a) (hb : IsInts w ob lb b) :
    Calls Tryz.prog 23 #[.slice oa la ca, .slice ob lb cb] w fun e w' => e = .returned (.bool (decide (a = b))) ∧ Below w.heap.size w w' := by
  have La := Lib.hid ha.hlen
  have Lb := Lib.hid hb.hlen
  have M1 := ha.hmax
  have M2 := hb.hmax
  by_cases hl : la = lb
  · subst hl
    go_enter Tryz.func23, Tryz.ntmps23
    go_wp2_with fail
    go_loopw [13] (fun i wr => ∃ k : Nat, k ≤ la ∧ i = .int .i64 k ∧ Hid (decide (a = b) = decide (a.drop k = b.drop k)) ∧ Hid (Below w.heap.size w wr)) (fun i _ => la - (intOf i).toNat)
    case atStart => exact ⟨0, Nat.zero_le _, rfl, rfl, Below.refl _ _⟩
    case round =>
      obtain ⟨k, hk, rfl, hno, HB⟩ := hrel
      by_cases hlt : k < la
      · obtain ⟨b1, o1, x, rfl, hc, _, _, hd, _⟩ := (ha.below HB.out).at_ hlt
        obtain ⟨b2, o2, y, rfl, hc', _, _, hd', _⟩ := (hb.below HB.out).at_ hlt
        have Hgo : Hid (decide (a = b) = (decide (x = y) && decide (a.drop (k + 1) = b.drop (k + 1)))) := by rw [Hid, hno.out, eq_drop hd.out hd'.out]
        have e1 : (0 : Int) ≤ k := by omega
        have e2 : (k : Int) < la := by omega
        clear hno
        by_cases hxy : x = y
        · subst hxy
          go_wp2_with fail
          go_quiet (fail)
          go_wp2_with fail
          go_roundw
          case rel => exact ⟨k + 1, by omega, by go_num, by rw [Hid, Hgo.out]; simp, below_drewN_of HB.out _⟩
          case measure => simp [intOf]; omega
        · have hne : (x != y) = true := by simpa using hxy
          go_wp2_with fail
          go_quiet (fail)
          go_wp2_with fail
          go_ret
          exact ⟨ret_bool (by rw [Hgo.out]; simp [hxy]), below_drewN_of HB.out _⟩
      · go_wp2_with fail
        go_ret
        exact ⟨ret_bool (by rw [hno.out, List.drop_eq_nil_of_le (by rw [La.out]; omega), List.drop_eq_nil_of_le (by rw [Lb.out]; omega)]; simp), HB.out⟩
  · have hne : ((la : Int) != lb) = true := by simp; omega
    go_enter Tryz.func23, Tryz.ntmps23
    go_wp2_with fail
    go_ret
    exact ⟨ret_bool (by rw [decide_eq_false (fun e => hl (by rw [← La.out, ← Lb.out, e]))]), Below.refl _ _⟩
end Go.Proofs.YtaemfafnmhndiaaGreatDoor
namespace Go.Proofs.YtaemfafnmhndiaaGreatDoor
open Go.RowKit

def encB (y : Blk) : Value := .agg #[.int .i64 y.rule, .int .u8 y.kind, .int .i64 y.lit]
def eqBlk (u v : Blk) : Bool := decide (u = v)
def eqWhy (u v : Why) : Bool := decide (u = v)
theorem blkGuard : Tryz.prog.eqGuardType Tryz.prog.depth 65 = false := by kernel_rfl
theorem blkHeld : Tryz.prog.stoodInHeld 65 = false := by kernel_rfl
theorem eqB_guard (op : BinOp) (x y : Operand) (u v : Blk) (w : World) : (eqGuard op 65 x y (encB u) (encB v)).run Tryz.prog w = .ok () w := run_eqGuard_agg w op _ x y _ _ blkGuard
theorem neB_run (u v : Blk) (w : World) : (binOp BinOp.neq 65 (encB u) (encB v)).run Tryz.prog w = .ok (.bool (!decide (u = v))) w := by
  have hu := Tryz.underlying65
  have h3 := Tryz.underlying3
  have h5 := Tryz.underlying5
  have hf : Tryz.prog.fieldsOf 65 = #[{ name := "Rule", type := 3, offset := 0, embedded := false, tag := "", pkgPath := "", byteOffset := 0 }, { name := "Kind", type := 5, offset := 1, embedded := false, tag := "", pkgPath := "", byteOffset := 8 }, { name := "Lit", type := 3, offset := 2, embedded := false, tag := "", pkgPath := "", byteOffset := 16 }] := by
    unfold Program.fieldsOf; rw [hu]
  rw [encB, encB, run_neq_struct, run_equalIn_agg w 9999 _ _ _ (by rw [hf]; exact hu) blkHeld, hf]
  simp [go_sem, Op.eqFields, h3, h5]
  obtain ⟨a1, a2, a3⟩ := u
  obtain ⟨b1, b2, b3⟩ := v
  simp only [Blk.mk.injEq]
  by_cases h1 : a1 = b1 <;> by_cases h2 : a2 = b2 <;> by_cases h3 : a3 = b3 <;> simp [h1, h2, h3]

set_option maxRecDepth 100000 in
set_option maxHeartbeats 2000000 in
theorem lblocks_any (w : World) (oa : Option Addr) (la ca : Nat) (a : List Blk) (ob : Option Addr) (lb cb : Nat) (b : List Blk) (ha : IsBlks w oa la a) (hb : IsBlks w ob lb b) :
    Calls Tryz.prog 25 #[.slice oa la ca, .slice ob lb cb] w fun e w' => e = .returned (.bool (decide (a = b))) ∧ Below w.heap.size w w' := by
  have La := Lib.hid ha.hlen
  have Lb := Lib.hid hb.hlen
  have M1 := ha.hmax
  have M2 := hb.hmax
  by_cases hl : la = lb
  · subst hl
    go_enter Tryz.func25, Tryz.ntmps25
    go_wp2_with fail
    go_loopw [13] (fun i wr => ∃ k : Nat, k ≤ la ∧ i = .int .i64 k ∧ Hid (decide (a = b) = decide (a.drop k = b.drop k)) ∧ Hid (Below w.heap.size w wr)) (fun i _ => la - (intOf i).toNat)
    case atStart => exact ⟨0, Nat.zero_le _, rfl, rfl, Below.refl _ _⟩
    case round =>
      obtain ⟨k, hk, rfl, hno, HB⟩ := hrel
      by_cases hlt : k < la
      · obtain ⟨b1, o1, ⟨x1, x2, x3⟩, rfl, hb1, c0, c1, c2, _, hd, _⟩ := (ha.below HB.out).at_ hlt
        obtain ⟨b2, o2, ⟨y1, y2, y3⟩, rfl, hb2, d0, d1, d2, _, hd', _⟩ := (hb.below HB.out).at_ hlt
        have Hgo : Hid (decide (a = b) = (decide ((⟨x1, x2, x3⟩ : Blk) = ⟨y1, y2, y3⟩) && decide (a.drop (k + 1) = b.drop (k + 1)))) := by rw [Hid, hno.out, eq_drop hd.out hd'.out]
        have e1 : (0 : Int) ≤ k := by omega
        have e2 : (k : Int) < la := by omega
        have hne : ∀ W, (binOp BinOp.neq 65 (.agg #[.int .i64 x1, .int .u8 x2, .int .i64 x3]) (.agg #[.int .i64 y1, .int .u8 y2, .int .i64 y3])).run Tryz.prog W = .ok (.bool (!eqBlk ⟨x1, x2, x3⟩ ⟨y1, y2, y3⟩)) W := fun W => neB_run ⟨x1, x2, x3⟩ ⟨y1, y2, y3⟩ W
        have hgn : ∀ x y W, (eqGuard BinOp.neq 65 x y (.agg #[.int .i64 x1, .int .u8 x2, .int .i64 x3]) (.agg #[.int .i64 y1, .int .u8 y2, .int .i64 y3])).run Tryz.prog W = .ok () W := fun x y W => eqB_guard BinOp.neq x y ⟨x1, x2, x3⟩ ⟨y1, y2, y3⟩ W
        clear hno
        simp only at c0 c1 c2 d0 d1 d2
        by_cases hxy : (⟨x1, x2, x3⟩ : Blk) = ⟨y1, y2, y3⟩
        · have hd0 : eqBlk ⟨x1, x2, x3⟩ ⟨y1, y2, y3⟩ = true := decide_eq_true hxy
          have Hxy := Lib.hid hxy
          clear hxy
          go_wp2_with fail
          go_quiet (fail)
          go_wp2_with fail
          go_roundw
          case rel => exact ⟨k + 1, by omega, by go_num, by rw [Hid, Hgo.out, Hxy.out]; simp, below_drewN_of HB.out _⟩
          case measure => simp [intOf]; omega
        · have hd0 : eqBlk ⟨x1, x2, x3⟩ ⟨y1, y2, y3⟩ = false := decide_eq_false hxy
          have Hxy := Lib.hid (decide_eq_false hxy)
          clear hxy
          go_wp2_with fail
          go_quiet (fail)
          go_wp2_with fail
          go_ret
          exact ⟨ret_bool (by rw [Hgo.out, Hxy.out]; rfl), below_drewN_of HB.out _⟩
      · go_wp2_with fail
        go_ret
        exact ⟨ret_bool (by rw [hno.out, List.drop_eq_nil_of_le (by rw [La.out]; omega), List.drop_eq_nil_of_le (by rw [Lb.out]; omega)]; simp), HB.out⟩
  · have hne : ((la : Int) != lb) = true := by simp; omega
    go_enter Tryz.func25, Tryz.ntmps25
    go_wp2_with fail
    go_ret
    exact ⟨ret_bool (by rw [decide_eq_false (fun e => hl (by rw [← La.out, ← Lb.out, e]))]), Below.refl _ _⟩

set_option maxRecDepth 100000 in
set_option maxHeartbeats 2000000 in
theorem same_any (w : World) (ow : Option Addr) (lw cw : Nat) (or : Option Addr) (lr cr : Nat) (x : Expl) (ow2 : Option Addr) (lw2 cw2 : Nat) (or2 : Option Addr) (lr2 cr2 : Nat) (y : Expl) (hx : IsExpl w ow lw or lr x) (hy : IsExpl w ow2 lw2 or2 lr2 y) :
    Calls Tryz.prog 20 #[.agg #[.slice ow lw cw, .slice or lr cr], .agg #[.slice ow2 lw2 cw2, .slice or2 lr2 cr2]] w fun e w' => e = .returned (.bool (decide (x = y))) ∧ Below w.heap.size w w' := by
  obtain ⟨a, ar⟩ := x
  obtain ⟨b, br⟩ := y
  obtain ⟨ha, har⟩ := hx
  obtain ⟨hb, hbr⟩ := hy
  simp only at ha har hb hbr
  have La := Lib.hid ha.hlen
  have Lb := Lib.hid hb.hlen
  have M1 := ha.hmax
  have M2 := hb.hmax
  by_cases hl : lw = lw2
  · subst hl
    go_enter Tryz.func20, Tryz.ntmps20
    go_wp2_with fail
    obtain ⟨W2, hW2⟩ : ∃ W2, W2 = (w.alloc (.cells #[.slice ow lw cw, .slice or lr cr] 30)).alloc (.cells #[.slice ow2 lw cw2, .slice or2 lr2 cr2] 30) := ⟨_, rfl⟩
    have HX2 : Hid (∀ j, W2.cell? ⟨w.heap.size, j, none⟩ = (#[.slice ow lw cw, .slice or lr cr] : Array Value)[j]?) := fun j => by rw [hW2]; simp
    have HY2 : Hid (∀ j, W2.cell? ⟨w.heap.size + 1, j, none⟩ = (#[.slice ow2 lw cw2, .slice or2 lr2 cr2] : Array Value)[j]?) := fun j => by rw [hW2]; simp
    have HB2 : Hid (Below w.heap.size w W2) := by rw [hW2]; exact below_alloc_of (below_alloc w _) _
    have HS2 : Hid (W2.heap.size = w.heap.size + 2) := by rw [Hid, hW2]; simp
    rw [← hW2]
    clear hW2
    go_loopw [16] (fun i wr => ∃ k : Nat, k ≤ lw ∧ i = .int .i64 k ∧ Hid (decide (a = b) = decide (a.drop k = b.drop k)) ∧ Hid (Below W2.heap.size W2 wr)) (fun i _ => lw - (intOf i).toNat)
    case atStart => exact ⟨0, Nat.zero_le _, rfl, rfl, Below.refl _ _⟩
    case round =>
      obtain ⟨k, hk, rfl, hno, HBW⟩ := hrel
      have HB : Hid (Below w.heap.size w wr) := below_trans_of HB2.out HBW.out
      have q1 : ∀ j, wr.cell? ⟨w.heap.size, j, none⟩ = (#[.slice ow lw cw, .slice or lr cr] : Array Value)[j]? := fun j => (HBW.out.cell (p := ⟨w.heap.size, j, none⟩) (by show w.heap.size < _; rw [HS2.out]; omega)).trans (HX2.out j)
      have q2 : ∀ j, wr.cell? ⟨w.heap.size + 1, j, none⟩ = (#[.slice ow2 lw cw2, .slice or2 lr2 cr2] : Array Value)[j]? := fun j => (HBW.out.cell (p := ⟨w.heap.size + 1, j, none⟩) (by show w.heap.size + 1 < _; rw [HS2.out]; omega)).trans (HY2.out j)
      by_cases hlt : k < lw
      · obtain ⟨b1, o1, ⟨x1, x2, x3⟩, rfl, hb1, c0, c1, c2, _, _, _, hd, _⟩ := (ha.below HB.out).at_ hlt
        obtain ⟨b2, o2, ⟨y1, y2, y3⟩, rfl, hb2, d0, d1, d2, _, _, _, hd', _⟩ := (hb.below HB.out).at_ hlt
        have Hgo : Hid (decide (a = b) = (decide ((⟨x1, x2, x3⟩ : Why) = ⟨y1, y2, y3⟩) && decide (a.drop (k + 1) = b.drop (k + 1)))) := by rw [Hid, hno.out, eq_drop hd.out hd'.out]
        have e1 : (0 : Int) ≤ k := by omega
        have e2 : (k : Int) < lw := by omega
        have hne : ∀ W, (binOp BinOp.neq 49 (.agg #[.int .i64 x1, .int .i64 x2, .int .i64 x3]) (.agg #[.int .i64 y1, .int .i64 y2, .int .i64 y3])).run Tryz.prog W = .ok (.bool (!eqWhy ⟨x1, x2, x3⟩ ⟨y1, y2, y3⟩)) W := fun W => neW_run ⟨x1, x2, x3⟩ ⟨y1, y2, y3⟩ W
        have hgn : ∀ x y W, (eqGuard BinOp.neq 49 x y (.agg #[.int .i64 x1, .int .i64 x2, .int .i64 x3]) (.agg #[.int .i64 y1, .int .i64 y2, .int .i64 y3])).run Tryz.prog W = .ok () W := fun x y W => eqW_guard BinOp.neq x y ⟨x1, x2, x3⟩ ⟨y1, y2, y3⟩ W
        clear hno
        simp only at c0 c1 c2 d0 d1 d2
        by_cases hxy : (⟨x1, x2, x3⟩ : Why) = ⟨y1, y2, y3⟩
        · have hd0 : eqWhy ⟨x1, x2, x3⟩ ⟨y1, y2, y3⟩ = true := decide_eq_true hxy
          have Hxy := Lib.hid hxy
          clear hxy
          go_wp2_with fail
          go_quiet (fail)
          go_wp2_with fail
          go_roundw
          case rel => exact ⟨k + 1, by omega, by go_num, by rw [Hid, Hgo.out, Hxy.out]; simp, below_drewN_of HBW.out _⟩
          case measure => simp [intOf]; omega
        · have hd0 : eqWhy ⟨x1, x2, x3⟩ ⟨y1, y2, y3⟩ = false := decide_eq_false hxy
          have Hxy := Lib.hid (decide_eq_false hxy)
          clear hxy
          go_wp2_with fail
          go_quiet (fail)
          go_wp2_with fail
          go_ret
          have HF : decide ((⟨a, ar⟩ : Expl) = ⟨b, br⟩) = false := by
            have h := Hgo.out; rw [Hxy.out] at h
            have h2 : ¬ a = b := by simpa using h
            simp [h2]
          exact ⟨ret_bool HF.symm, below_drewN_of HB.out _⟩
      · have HE : Hid (a = b) := by
          have h := hno.out
          rw [List.drop_eq_nil_of_le (by rw [La.out]; omega), List.drop_eq_nil_of_le (by rw [Lb.out]; omega)] at h
          simpa [Hid] using h
        clear hno
        go_wp2_with (go_at_call 23; refine (ints_any _ _ _ _ ar _ _ _ br (har.below HB.out) (hbr.below HB.out)).mono ?_; rintro e w4 ⟨rfl, hb4⟩)
        go_ret
        exact ⟨ret_bool (by have := HE.out; subst this; simp), below_trans_of HB.out hb4⟩
  · have hne : ((lw : Int) != lw2) = true := by simp; omega
    go_enter Tryz.func20, Tryz.ntmps20
    go_wp2_with fail
    go_ret
    exact ⟨ret_bool (by symm; simp only [decide_eq_false_iff_not, Expl.mk.injEq]; exact fun e => hl (by rw [← La.out, ← Lb.out, e.1])), below_alloc_of (below_alloc w _) _⟩
end Go.Proofs.YtaemfafnmhndiaaGreatDoor
namespace Go.Proofs.YtaemfafnmhndiaaGreatDoor
open Go.RowKit Go.Maps Go.WideMaps Go.Sort

theorem heap_lt {W : World} {b : Nat} {o : Obj} (h : W.heap[b]? = some o) : b < W.heap.size := by
  rcases Nat.lt_or_ge b W.heap.size with c | c
  · exact c
  · rw [Array.getElem?_eq_none c] at h; cases h
theorem infoStr : (Tryz.prog.info? 9).map (fun i => (i.zero, i.size, i.bytes)) = some (some (.string ⟨#[]⟩), 1, 16) := by kernel_rfl
def strCellsN (n : Nat) : Array Value := (List.replicate n (Value.string ⟨#[]⟩)).toArray
theorem madeCells_str (n : Nat) : madeCells (Value.string ⟨#[]⟩).cells n = strCellsN n := by
  apply Array.ext
  · simp [madeCells, strCellsN]
  · intro i h1 h2; simp [madeCells, strCellsN, Value.cells, Nat.mod_one]

theorem strs_of_heap {W : World} {b N : Nat} {T : TypeId} {fr : Nat × Nat} (h : W.heap[b]? = some (.cells (strCellsN N) T fr)) (hN : N ≤ 100) : IsStrs W (some ⟨b, 0, none⟩) N (List.replicate N .empty) := by
  refine ⟨by simp, by omega, fun _ => ⟨b, 0, rfl, heap_lt h, fun i x hx => ?_⟩⟩
  have hi : i < N := by have := (List.getElem?_eq_some_iff.1 hx).1; simpa using this
  have hx' : x = .empty := by rw [List.getElem?_replicate, if_pos hi] at hx; simpa using hx.symm
  subst hx'
  refine ⟨[.string .empty], rfl, ⟨rfl, by decide⟩, fun j hj => ?_⟩
  obtain rfl : j = 0 := by omega
  have : W.cell? ⟨b, 0 + (i * 1 + 0), none⟩ = (strCellsN N)[i]? := by simp [World.cell?, h]
  rw [this]
  simp [strCellsN, hi]; rfl

set_option maxRecDepth 100000 in
set_option maxHeartbeats 2000000 in
theorem with_any (w : World) (N : Nat) (hN : N ≤ 100) (or : Option Addr) (lr cr : Nat) :
    Calls Tryz.prog 45 #[.int .i64 N, .slice or lr cr] w fun e w' => ∃ g, e = .returned (.agg #[.int .i64 N, .slice (some ⟨g, 0, none⟩) N N, .slice none 0 0, .slice or lr cr, .slice none 0 0]) ∧ w.heap.size ≤ g ∧ w'.heap[g]? = some (.cells (strCellsN N) 9 (0, 0)) ∧ Below w.heap.size w w' := by
  have e1 : (0 : Int) ≤ N := by omega
  obtain ⟨i0, hi, hz0, hz1, hz2⟩ := info_parts infoStr
  have hmk : ∀ w, (Instr.makeSlice 22 (.int .i64 (N : Int)) (.int .i64 (N : Int))).run Tryz.prog w = .ok (.slice (some ⟨w.heap.size, 0, none⟩) N N) (w.alloc (.cells (strCellsN N) 9)) := fun w => by
    have := run_make (P := Tryz.prog) (w := w) 22 9 i0 _ Tryz.underlying22 hi hz0 .i64 .i64 (N : Int) (N : Int) (by omega) (by omega) (by rw [hz2]; omega) (by omega)
    rw [this, show (N : Int).toNat = N by omega, hz1, Nat.mul_one, madeCells_str]
  clear hi hz0 hz1 hz2
  go_enter Tryz.func45, Tryz.ntmps45
  go_wp2_with fail
  refine bodyPost_ret (v := .agg #[.int .i64 N, .slice (some ⟨w.heap.size + 1, 0, none⟩) N N, .slice none 0 0, .slice or lr cr, .slice none 0 0]) (by simp [results, Tryz.results45, go_sem]) rfl ⟨w.heap.size + 1, rfl, by omega, ?_, ?_⟩
  · exact (by simp only [heap_alloc, World.size_alloc]; (repeat (first | rw [if_pos trivial] | rw [if_pos (by omega)] | rw [if_neg (by omega)])))
  · exact below_alloc_of (below_alloc w _) _

/-- A literal row of rules. -/
theorem rules_of_heap {W : World} {b len : Nat} {l : List GRule} {es : List (List Value)} {cs : Array Value} {T : TypeId} {fr : Nat × Nat} (hh : W.heap[b]? = some (.cells cs T fr)) (hl : l.length = len) (hm : len ≤ 1000) (hcs : cs.toList = es.flatMap id) (hes : es.length = len)
    (h : ∀ (i : Nat) (r : GRule) (e : List Value), l[i]? = some r → es[i]? = some e → e.length = 6 ∧ RRule W e r) (h6 : ∀ e ∈ es, e.length = 6) : IsRules W (some ⟨b, 0, none⟩) len l := by
  refine ⟨hl, by omega, fun _ => ⟨b, 0, rfl, heap_lt hh, fun i x hx => ?_⟩⟩
  have hi : i < es.length := by rw [hes, ← hl]; exact (List.getElem?_eq_some_iff.1 hx).1
  obtain ⟨e1, e2⟩ := h i x es[i] hx (List.getElem?_eq_getElem hi)
  refine ⟨es[i], e1, e2, fun j hj => ?_⟩
  have hf := flat_at (id : List Value → List Value) 6 es (by simpa using h6) i j es[i] (List.getElem?_eq_getElem hi) hj
  rw [← hcs, Array.getElem?_toList] at hf
  rw [Nat.zero_add]
  have : W.cell? ⟨b, i * 6 + j, none⟩ = cs[i * 6 + j]? := by simp [World.cell?, hh]
  rw [this, hf]; rfl
theorem rule_lit {W : World} {c s : Bool} {k : Int} {hd bd ws : List Int} {oh ob ow : Option Addr} {lh ch lb cb lw cw : Nat} (h1 : IsInts W oh lh hd) (h2 : IsInts W ob lb bd) (h3 : IsInts W ow lw ws) (hk : I64 k) :
    RRule W [.bool c, .slice oh lh ch, .bool s, .int .i64 k, .slice ob lb cb, .slice ow lw cw] ⟨c, hd, s, k, bd, ws⟩ :=
  ⟨oh, lh, ch, ob, lb, cb, ow, lw, cw, rfl, h1, h2, h3, hk⟩
theorem ints_of_heap {W : World} {b len : Nat} {l : List Int} {cs : Array Value} {T : TypeId} {fr : Nat × Nat} (h : W.heap[b]? = some (.cells cs T fr)) (hl : l.length = len) (hm : len ≤ 1000) (hcs : cs.toList = l.map (Value.int .i64)) (hr : ∀ x ∈ l, I64 x) : IsInts W (some ⟨b, 0, none⟩) len l := by
  refine IsInts.of_cells hl (by omega) (by rcases Nat.lt_or_ge b W.heap.size with c | c; exact c; rw [Array.getElem?_eq_none c] at h; cases h) (fun i x hx => ?_) hr
  have : cs[i]? = some (.int .i64 x) := by rw [← Array.getElem?_toList, hcs, List.getElem?_map, hx]; rfl
  simp only [World.cell?, h, Nat.zero_add]; exact this
def exRules : List GRule := [⟨false, [1], false, 0, [-2], []⟩, ⟨true, [3], false, 0, [1], []⟩, ⟨false, [4, 5], false, 0, [3], []⟩, ⟨false, [5], true, 2, [1, 3, 6], [1, 1, 5]⟩, ⟨false, [2], false, 0, [-1], []⟩]
instance (x : Int) : Decidable (I64 x) := inferInstanceAs (Decidable (_ ∧ _))
def exProg : GProg := ⟨6, List.replicate 6 .empty, [], exRules, []⟩
set_option maxRecDepth 100000 in
set_option maxHeartbeats 4000000 in
theorem example_any (w : World) :
    Calls Tryz.prog 44 #[] w fun e w' => ∃ on or, e = .returned (.agg #[.int .i64 6, .slice on 6 6, .slice none 0 0, .slice or 5 5, .slice none 0 0]) ∧ IsProg w' 6 on 6 none 0 or 5 none 0 exProg ∧ Below w.heap.size w w' := by
  go_enter Tryz.func44, Tryz.ntmps44
  go_wp2_with fail
  refine (with_any _ 6 (by omega) _ _ _).mono ?_
  rintro e w1 ⟨g, rfl, hg1, hg2, hb1⟩
  obtain ⟨W, hW⟩ : ∃ W, W = ((((((((((((w.alloc (.cells #[.int .i64 0, .slice none 0 0, .slice none 0 0, .slice none 0 0, .slice none 0 0] 27)).alloc (.cells #[.int .i64 1] 3)).alloc (.cells #[.int .i64 (-2)] 3)).alloc (.cells #[.int .i64 3] 3)).alloc (.cells #[.int .i64 1] 3)).alloc (.cells #[.int .i64 4, .int .i64 5] 3)).alloc (.cells #[.int .i64 3] 3)).alloc (.cells #[.int .i64 5] 3)).alloc (.cells #[.int .i64 1, .int .i64 3, .int .i64 6] 3)).alloc (.cells #[.int .i64 1, .int .i64 1, .int .i64 5] 3)).alloc (.cells #[.int .i64 2] 3)).alloc (.cells #[.int .i64 (-1)] 3)).alloc (.cells #[.bool false, .slice (some ⟨w.heap.size + 1, 0, none⟩) 1 1, .bool false, .int .i64 0, .slice (some ⟨w.heap.size + 1 + 1, 0, none⟩) 1 1, .slice none 0 0, .bool true, .slice (some ⟨w.heap.size + 1 + 1 + 1, 0, none⟩) 1 1, .bool false, .int .i64 0, .slice (some ⟨w.heap.size + 1 + 1 + 1 + 1, 0, none⟩) 1 1, .slice none 0 0, .bool false, .slice (some ⟨w.heap.size + 1 + 1 + 1 + 1 + 1, 0, none⟩) 2 2, .bool false, .int .i64 0, .slice (some ⟨w.heap.size + 1 + 1 + 1 + 1 + 1 + 1, 0, none⟩) 1 1, .slice none 0 0, .bool false, .slice (some ⟨w.heap.size + 1 + 1 + 1 + 1 + 1 + 1 + 1, 0, none⟩) 1 1, .bool true, .int .i64 2, .slice (some ⟨w.heap.size + 1 + 1 + 1 + 1 + 1 + 1 + 1 + 1, 0, none⟩) 3 3, .slice (some ⟨w.heap.size + 1 + 1 + 1 + 1 + 1 + 1 + 1 + 1 + 1, 0, none⟩) 3 3, .bool false, .slice (some ⟨w.heap.size + 1 + 1 + 1 + 1 + 1 + 1 + 1 + 1 + 1 + 1, 0, none⟩) 1 1, .bool false, .int .i64 0, .slice (some ⟨w.heap.size + 1 + 1 + 1 + 1 + 1 + 1 + 1 + 1 + 1 + 1 + 1, 0, none⟩) 1 1, .slice none 0 0] 60) := ⟨_, rfl⟩
  rw [← hW] at hb1 hg1
  have hWs : W.heap.size = w.heap.size + 13 := by rw [hW]; simp
  have hWb : Below w.heap.size w W := by rw [hW]; exact below_alloc_of (below_alloc_of (below_alloc_of (below_alloc_of (below_alloc_of (below_alloc_of (below_alloc_of (below_alloc_of (below_alloc_of (below_alloc_of (below_alloc_of (below_alloc_of (below_alloc w _) _) _) _) _) _) _) _) _) _) _) _) _
  have hz1 : w1.heap[w.heap.size]? = some (.cells #[.int .i64 0, .slice none 0 0, .slice none 0 0, .slice none 0 0, .slice none 0 0] 27 (0, 0)) :=
    (hb1.block w.heap.size (by omega)).trans (by rw [hW]; exact (by simp only [heap_alloc, World.size_alloc]; (repeat (first | rw [if_pos trivial] | rw [if_pos (by omega)] | rw [if_neg (by omega)]))))
  have hc1 := (cells_of_heap hz1).1
  have hf1 := (cells_of_heap hz1).2
  have HB1 : Hid (Below w.heap.size w w1) := below_trans_of hWb hb1
  have HW := Lib.hid hW
  have HBl := Lib.hid hb1
  have HG2 := Lib.hid hg2
  have HWs := Lib.hid hWs
  have hgne : g ≠ w.heap.size := by omega
  clear hW hz1 hb1 hWb hg2 hWs
  go_wp2_with fail
  obtain ⟨F, hF⟩ : ∃ F, F = (((((w1.setCell ⟨w.heap.size, 0, none⟩ (.int .i64 6)).setCell ⟨w.heap.size, 1, none⟩ (.slice (some ⟨g, 0, none⟩) 6 6)).setCell ⟨w.heap.size, 2, none⟩ (.slice none 0 0)).setCell ⟨w.heap.size, 3, none⟩ (.slice (some ⟨w.heap.size + 1 + 1 + 1 + 1 + 1 + 1 + 1 + 1 + 1 + 1 + 1 + 1, 0, none⟩) 5 5)).setCell ⟨w.heap.size, 4, none⟩ (.slice none 0 0)) := ⟨_, rfl⟩
  refine bodyPost_ret (v := .agg #[.int .i64 6, .slice (some ⟨g, 0, none⟩) 6 6, .slice none 0 0, .slice (some ⟨w.heap.size + 1 + 1 + 1 + 1 + 1 + 1 + 1 + 1 + 1 + 1 + 1 + 1, 0, none⟩) 5 5, .slice none 0 0]) (by simp [results, Tryz.results44, go_sem, hc1]) rfl ⟨_, _, rfl, ?_, ?_⟩
  · rw [← hF]
    have hFh : ∀ b, b ≠ w.heap.size → F.heap[b]? = w1.heap[b]? := fun b hb => by
      rw [hF, Below.heap_setCell _ _ _ _ hb, Below.heap_setCell _ _ _ _ hb, Below.heap_setCell _ _ _ _ hb, Below.heap_setCell _ _ _ _ hb, Below.heap_setCell _ _ _ _ hb]
    have hWs := HWs.out
    have hFW : ∀ b, b ≠ w.heap.size → b < w.heap.size + 13 → F.heap[b]? = W.heap[b]? := fun b h1 h2 => (hFh b h1).trans (HBl.out.block b (by omega))
    have q1 : IsInts F (some ⟨w.heap.size + 1, 0, none⟩) 1 [1] := ints_of_heap (cs := #[.int .i64 1]) (T := 3) (fr := (0, 0)) ((hFW (w.heap.size + 1) (by omega) (by omega)).trans (by rw [HW.out]; exact (by simp only [heap_alloc, World.size_alloc]; (repeat (first | rw [if_pos trivial] | rw [if_pos (by omega)] | rw [if_neg (by omega)]))))) rfl (by omega) rfl (by decide)
    have q2 : IsInts F (some ⟨w.heap.size + 1 + 1, 0, none⟩) 1 [-2] := ints_of_heap (cs := #[.int .i64 (-2)]) (T := 3) (fr := (0, 0)) ((hFW (w.heap.size + 1 + 1) (by omega) (by omega)).trans (by rw [HW.out]; exact (by simp only [heap_alloc, World.size_alloc]; (repeat (first | rw [if_pos trivial] | rw [if_pos (by omega)] | rw [if_neg (by omega)]))))) rfl (by omega) rfl (by decide)
    have q3 : IsInts F (some ⟨w.heap.size + 1 + 1 + 1, 0, none⟩) 1 [3] := ints_of_heap (cs := #[.int .i64 3]) (T := 3) (fr := (0, 0)) ((hFW (w.heap.size + 1 + 1 + 1) (by omega) (by omega)).trans (by rw [HW.out]; exact (by simp only [heap_alloc, World.size_alloc]; (repeat (first | rw [if_pos trivial] | rw [if_pos (by omega)] | rw [if_neg (by omega)]))))) rfl (by omega) rfl (by decide)
    have q4 : IsInts F (some ⟨w.heap.size + 1 + 1 + 1 + 1, 0, none⟩) 1 [1] := ints_of_heap (cs := #[.int .i64 1]) (T := 3) (fr := (0, 0)) ((hFW (w.heap.size + 1 + 1 + 1 + 1) (by omega) (by omega)).trans (by rw [HW.out]; exact (by simp only [heap_alloc, World.size_alloc]; (repeat (first | rw [if_pos trivial] | rw [if_pos (by omega)] | rw [if_neg (by omega)]))))) rfl (by omega) rfl (by decide)
    have q5 : IsInts F (some ⟨w.heap.size + 1 + 1 + 1 + 1 + 1, 0, none⟩) 2 [4, 5] := ints_of_heap (cs := #[.int .i64 4, .int .i64 5]) (T := 3) (fr := (0, 0)) ((hFW (w.heap.size + 1 + 1 + 1 + 1 + 1) (by omega) (by omega)).trans (by rw [HW.out]; exact (by simp only [heap_alloc, World.size_alloc]; (repeat (first | rw [if_pos trivial] | rw [if_pos (by omega)] | rw [if_neg (by omega)]))))) rfl (by omega) rfl (by decide)
    have q6 : IsInts F (some ⟨w.heap.size + 1 + 1 + 1 + 1 + 1 + 1, 0, none⟩) 1 [3] := ints_of_heap (cs := #[.int .i64 3]) (T := 3) (fr := (0, 0)) ((hFW (w.heap.size + 1 + 1 + 1 + 1 + 1 + 1) (by omega) (by omega)).trans (by rw [HW.out]; exact (by simp only [heap_alloc, World.size_alloc]; (repeat (first | rw [if_pos trivial] | rw [if_pos (by omega)] | rw [if_neg (by omega)]))))) rfl (by omega) rfl (by decide)
    have q7 : IsInts F (some ⟨w.heap.size + 1 + 1 + 1 + 1 + 1 + 1 + 1, 0, none⟩) 1 [5] := ints_of_heap (cs := #[.int .i64 5]) (T := 3) (fr := (0, 0)) ((hFW (w.heap.size + 1 + 1 + 1 + 1 + 1 + 1 + 1) (by omega) (by omega)).trans (by rw [HW.out]; exact (by simp only [heap_alloc, World.size_alloc]; (repeat (first | rw [if_pos trivial] | rw [if_pos (by omega)] | rw [if_neg (by omega)]))))) rfl (by omega) rfl (by decide)
    have q8 : IsInts F (some ⟨w.heap.size + 1 + 1 + 1 + 1 + 1 + 1 + 1 + 1, 0, none⟩) 3 [1, 3, 6] := ints_of_heap (cs := #[.int .i64 1, .int .i64 3, .int .i64 6]) (T := 3) (fr := (0, 0)) ((hFW (w.heap.size + 1 + 1 + 1 + 1 + 1 + 1 + 1 + 1) (by omega) (by omega)).trans (by rw [HW.out]; exact (by simp only [heap_alloc, World.size_alloc]; (repeat (first | rw [if_pos trivial] | rw [if_pos (by omega)] | rw [if_neg (by omega)]))))) rfl (by omega) rfl (by decide)
    have q9 : IsInts F (some ⟨w.heap.size + 1 + 1 + 1 + 1 + 1 + 1 + 1 + 1 + 1, 0, none⟩) 3 [1, 1, 5] := ints_of_heap (cs := #[.int .i64 1, .int .i64 1, .int .i64 5]) (T := 3) (fr := (0, 0)) ((hFW (w.heap.size + 1 + 1 + 1 + 1 + 1 + 1 + 1 + 1 + 1) (by omega) (by omega)).trans (by rw [HW.out]; exact (by simp only [heap_alloc, World.size_alloc]; (repeat (first | rw [if_pos trivial] | rw [if_pos (by omega)] | rw [if_neg (by omega)]))))) rfl (by omega) rfl (by decide)
    have q10 : IsInts F (some ⟨w.heap.size + 1 + 1 + 1 + 1 + 1 + 1 + 1 + 1 + 1 + 1, 0, none⟩) 1 [2] := ints_of_heap (cs := #[.int .i64 2]) (T := 3) (fr := (0, 0)) ((hFW (w.heap.size + 1 + 1 + 1 + 1 + 1 + 1 + 1 + 1 + 1 + 1) (by omega) (by omega)).trans (by rw [HW.out]; exact (by simp only [heap_alloc, World.size_alloc]; (repeat (first | rw [if_pos trivial] | rw [if_pos (by omega)] | rw [if_neg (by omega)]))))) rfl (by omega) rfl (by decide)
    have q11 : IsInts F (some ⟨w.heap.size + 1 + 1 + 1 + 1 + 1 + 1 + 1 + 1 + 1 + 1 + 1, 0, none⟩) 1 [-1] := ints_of_heap (cs := #[.int .i64 (-1)]) (T := 3) (fr := (0, 0)) ((hFW (w.heap.size + 1 + 1 + 1 + 1 + 1 + 1 + 1 + 1 + 1 + 1 + 1) (by omega) (by omega)).trans (by rw [HW.out]; exact (by simp only [heap_alloc, World.size_alloc]; (repeat (first | rw [if_pos trivial] | rw [if_pos (by omega)] | rw [if_neg (by omega)]))))) rfl (by omega) rfl (by decide)
    have hr : IsRules F (some ⟨w.heap.size + 1 + 1 + 1 + 1 + 1 + 1 + 1 + 1 + 1 + 1 + 1 + 1, 0, none⟩) 5 exRules := rules_of_heap (es := [[.bool false, .slice (some ⟨w.heap.size + 1, 0, none⟩) 1 1, .bool false, .int .i64 0, .slice (some ⟨w.heap.size + 1 + 1, 0, none⟩) 1 1, .slice none 0 0], [.bool true, .slice (some ⟨w.heap.size + 1 + 1 + 1, 0, none⟩) 1 1, .bool false, .int .i64 0, .slice (some ⟨w.heap.size + 1 + 1 + 1 + 1, 0, none⟩) 1 1, .slice none 0 0], [.bool false, .slice (some ⟨w.heap.size + 1 + 1 + 1 + 1 + 1, 0, none⟩) 2 2, .bool false, .int .i64 0, .slice (some ⟨w.heap.size + 1 + 1 + 1 + 1 + 1 + 1, 0, none⟩) 1 1, .slice none 0 0], [.bool false, .slice (some ⟨w.heap.size + 1 + 1 + 1 + 1 + 1 + 1 + 1, 0, none⟩) 1 1, .bool true, .int .i64 2, .slice (some ⟨w.heap.size + 1 + 1 + 1 + 1 + 1 + 1 + 1 + 1, 0, none⟩) 3 3, .slice (some ⟨w.heap.size + 1 + 1 + 1 + 1 + 1 + 1 + 1 + 1 + 1, 0, none⟩) 3 3], [.bool false, .slice (some ⟨w.heap.size + 1 + 1 + 1 + 1 + 1 + 1 + 1 + 1 + 1 + 1, 0, none⟩) 1 1, .bool false, .int .i64 0, .slice (some ⟨w.heap.size + 1 + 1 + 1 + 1 + 1 + 1 + 1 + 1 + 1 + 1 + 1, 0, none⟩) 1 1, .slice none 0 0]]) (cs := #[.bool false, .slice (some ⟨w.heap.size + 1, 0, none⟩) 1 1, .bool false, .int .i64 0, .slice (some ⟨w.heap.size + 1 + 1, 0, none⟩) 1 1, .slice none 0 0, .bool true, .slice (some ⟨w.heap.size + 1 + 1 + 1, 0, none⟩) 1 1, .bool false, .int .i64 0, .slice (some ⟨w.heap.size + 1 + 1 + 1 + 1, 0, none⟩) 1 1, .slice none 0 0, .bool false, .slice (some ⟨w.heap.size + 1 + 1 + 1 + 1 + 1, 0, none⟩) 2 2, .bool false, .int .i64 0, .slice (some ⟨w.heap.size + 1 + 1 + 1 + 1 + 1 + 1, 0, none⟩) 1 1, .slice none 0 0, .bool false, .slice (some ⟨w.heap.size + 1 + 1 + 1 + 1 + 1 + 1 + 1, 0, none⟩) 1 1, .bool true, .int .i64 2, .slice (some ⟨w.heap.size + 1 + 1 + 1 + 1 + 1 + 1 + 1 + 1, 0, none⟩) 3 3, .slice (some ⟨w.heap.size + 1 + 1 + 1 + 1 + 1 + 1 + 1 + 1 + 1, 0, none⟩) 3 3, .bool false, .slice (some ⟨w.heap.size + 1 + 1 + 1 + 1 + 1 + 1 + 1 + 1 + 1 + 1, 0, none⟩) 1 1, .bool false, .int .i64 0, .slice (some ⟨w.heap.size + 1 + 1 + 1 + 1 + 1 + 1 + 1 + 1 + 1 + 1 + 1, 0, none⟩) 1 1, .slice none 0 0]) (T := 60) (fr := (0, 0)) ((hFW (w.heap.size + 1 + 1 + 1 + 1 + 1 + 1 + 1 + 1 + 1 + 1 + 1 + 1) (by omega) (by omega)).trans (by rw [HW.out]; exact (by simp only [heap_alloc, World.size_alloc]; (repeat (first | rw [if_pos trivial] | rw [if_pos (by omega)] | rw [if_neg (by omega)]))))) rfl (by omega) rfl rfl (fun i r e hr he => by
      match i, hr, he with
      | 0, hr, he => cases hr; cases he; exact ⟨rfl, rule_lit q1 q2 (IsInts.nil_ _ _) (by decide)⟩
      | 1, hr, he => cases hr; cases he; exact ⟨rfl, rule_lit q3 q4 (IsInts.nil_ _ _) (by decide)⟩
      | 2, hr, he => cases hr; cases he; exact ⟨rfl, rule_lit q5 q6 (IsInts.nil_ _ _) (by decide)⟩
      | 3, hr, he => cases hr; cases he; exact ⟨rfl, rule_lit q7 q8 q9 (by decide)⟩
      | 4, hr, he => cases hr; cases he; exact ⟨rfl, rule_lit q10 q11 (IsInts.nil_ _ _) (by decide)⟩
      | n + 5, hr, _ => simp [exRules] at hr) (by simp)
    exact ⟨rfl, (by decide : I64 6), strs_of_heap ((hFh g hgne).trans HG2.out) (by omega), IsInts.nil_ _ _, hr, ⟨rfl, by omega, fun h => absurd h (by omega)⟩⟩
  · exact below_set_of (below_set_of (below_set_of (below_set_of (below_set_of HB1.out _ _ _ (Nat.le_refl _)) _ _ _ (Nat.le_refl _)) _ _ _ (Nat.le_refl _)) _ _ _ (Nat.le_refl _)) _ _ _ (Nat.le_refl _)
end Go.Proofs.YtaemfafnmhndiaaGreatDoor
namespace Go.Proofs.YtaemfafnmhndiaaGreatDoor
open Go.RowKit Go.Maps Go.WideMaps Go.Sort

def RetList (w : World) (l : List Int) (err : Int) (e : Ending) (w' : World) : Prop :=
  ∃ oa len cap, e = .returned (.tuple #[.slice oa len cap, .int .i64 err]) ∧ IsInts w' oa len l ∧ Below w.heap.size w w'

set_option maxRecDepth 100000 in
set_option maxHeartbeats 4000000 in
theorem support_bad (w : World) (p : GProg) (n : Int) (on : Option Addr) (ln cn : Nat) (os : Option Addr) (ls cs : Nat) (or : Option Addr) (lr cr : Nat) (om : Option Addr) (lm cm : Nat)
    (oa : Option Addr) (len cap : Nat) (m : List Int) (ow : Option Addr) (lw cw : Nat) (oe : Option Addr) (le ce : Nat) (x : Expl) (a : Int)
    (h : IsProg w n on ln os ls or lr om lm p) (hm : IsInts w oa len m) (hx : IsExpl w ow lw oe le x) (hbig : le + lw ≤ 17592186044416) (hbad : checkB p m x = false) :
    Calls Tryz.prog 16 #[.agg #[.int .i64 n, .slice on ln cn, .slice os ls cs, .slice or lr cr, .slice om lm cm], .slice oa len cap, .agg #[.slice ow lw cw, .slice oe le ce], .int .i64 a] w
      (RetList w [] (if explainErr p m ≠ 0 then explainErr p m else 2)) := by
  have HW0 : Hid (Below w.heap.size w ((w.alloc (.cells #[.int .i64 n, .slice on ln cn, .slice os ls cs, .slice or lr cr, .slice om lm cm] 27)).alloc (.cells #[.slice ow lw cw, .slice oe le ce] 30))) := below_alloc_of (below_alloc w _) _
  have Hb := Lib.hid hbad
  clear hbad
  by_cases he : explainErr p m = 0
  · rw [if_neg (by simp [he])]
    have He := Lib.hid he
    clear he
    go_enter Tryz.func16, Tryz.ntmps16
    go_wp2_with fail
    refine (check_any _ _ _ _ _ _ _ _ _ _ _ _ _ _ _ _ _ _ m _ _ _ _ _ _ x (h.below HW0.out) (hm.below HW0.out) (hx.below HW0.out) hbig).mono ?_
    rw [He.out, Hb.out]
    rintro e w1 ⟨rfl, hb1⟩
    have HB1 := Lib.hid (below_trans_of HW0.out hb1)
    clear hb1
    go_wp2_with fail
    go_ret2
    exact ⟨none, 0, 0, rfl, IsInts.nil_ _ _, HB1.out⟩
  · rw [if_pos he]
    have hc1 : (explainErr p m != 0) = true := by simpa using he
    have He : Hid (¬ explainErr p m = 0) := he
    clear he
    go_enter Tryz.func16, Tryz.ntmps16
    go_wp2_with fail
    refine (check_any _ _ _ _ _ _ _ _ _ _ _ _ _ _ _ _ _ _ m _ _ _ _ _ _ x (h.below HW0.out) (hm.below HW0.out) (hx.below HW0.out) hbig).mono ?_
    rintro e w1 ⟨rfl, hb1⟩
    have HB1 := Lib.hid (below_trans_of HW0.out hb1)
    clear hb1
    go_wp2_with fail
    go_ret2
    exact ⟨none, 0, 0, rfl, IsInts.nil_ _ _, HB1.out⟩
theorem check_parts {p : GProg} {m : List Int} {x : Expl} (h : checkB p m x = true) : explainErr p m = 0 ∧ validB p m x = true ∧ (∀ y ∈ x.whys, badWhy p.n p.rules.length y = false) ∧ (∀ y ∈ x.whys, y.atom ∈ m) := by
  simp only [checkB, Bool.and_eq_true, beq_iff_eq] at h
  refine ⟨h.1, h.2, ?_, ?_⟩
  · intro y hy
    have hv := h.2
    simp only [validB, Bool.and_eq_true, Bool.not_eq_true'] at hv
    cases e : badWhy p.n p.rules.length y
    · rfl
    · rw [List.any_eq_true.2 ⟨y, hy, e⟩] at hv; exact absurd hv.1 (by simp)
  · intro y hy
    have hv := h.2
    simp only [validB, Bool.and_eq_true, beq_iff_eq] at hv
    rw [← hv.2.1, allAtoms, List.mem_mergeSort]
    exact List.mem_append.2 (.inr (List.mem_map.2 ⟨y, hy, rfl⟩))
end Go.Proofs.YtaemfafnmhndiaaGreatDoor
namespace Go.Proofs.YtaemfafnmhndiaaGreatDoor

/-- A rule derives an atom, whatever the literals' test. -/
def derivesG (lit : Int → Bool) (m : List Int) (r : GRule) (a : Int) : Bool :=
  inB r.head a && (r.choice || !r.head.any fun b => b != a && inB m b) &&
    (if r.sum then decide (r.bound ≤ sumP lit 0 r.body r.w) else r.body.all lit && decide (r.bound ≤ 0))
theorem derivesB_eq (m lv : List Int) (r : GRule) (a most : Int) : derivesB m lv r a most = derivesG (litD m lv most) m r a := rfl
def litR (m s : List Int) (x : Int) : Bool := holdsB (inB m) x && (decide (x < 0) || inB s x)
def derivesR (m s : List Int) (r : GRule) (a : Int) : Bool := derivesG (litR m s) m r a

theorem sumP_congr {p q : Int → Bool} : ∀ (b w : List Int) (S : Int), (∀ x ∈ b, p x = q x) → sumP p S b w = sumP q S b w
  | [], w, S, _ => by cases w <;> rfl
  | x :: b, [], S, _ => rfl
  | x :: b, y :: w, S, h => by
    simp only [sumP]
    rw [h x (by simp)]
    exact sumP_congr b w _ fun z hz => h z (by simp [hz])
theorem derivesG_congr {p q : Int → Bool} {m : List Int} {r : GRule} {a : Int} (h : ∀ x ∈ r.body, p x = q x) : derivesG p m r a = derivesG q m r a := by
  unfold derivesG
  rw [sumP_congr r.body r.w 0 h]
  have e : r.body.all p = r.body.all q := by
    rw [Bool.eq_iff_iff]; simp only [List.all_eq_true]
    exact ⟨fun hh x hx => by rw [← h x hx]; exact hh x hx, fun hh x hx => by rw [h x hx]; exact hh x hx⟩
  rw [e]

/-- The levels say the set. -/
def LevSet (m lv s : List Int) (most : Int) : Prop := ∀ x ∈ m, (1 ≤ lv.getD x.toNat 0 ∧ lv.getD x.toNat 0 ≤ most ↔ x ∈ s)
theorem litD_eq {m lv s : List Int} {most x : Int} (h : LevSet m lv s most) (hx : x ≠ 0) : litD m lv most x = litR m s x := by
  unfold litD litR holdsB
  by_cases h0 : 0 < x
  · have h1 : ¬ x < 0 := by omega
    cases hm : inB m x
    · simp [h0, h1]
    · have := h x ((inB_iff m x).1 hm)
      have e : (decide (1 ≤ lv.getD x.toNat 0) && decide (lv.getD x.toNat 0 ≤ most)) = inB s x := by
        rw [Bool.eq_iff_iff, inB_iff, ← this]; simp
      simp only [h0, h1, if_true, decide_true, decide_false, Bool.true_and, Bool.false_and, Bool.false_or, Bool.and_true]
      exact e
  · have h1 : x < 0 := by omega
    simp [h0, h1]
theorem derives_eq {m lv s : List Int} {most : Int} {r : GRule} {a : Int} (h : LevSet m lv s most) (hb : ∀ x ∈ r.body, x ≠ 0) : derivesB m lv r a most = derivesR m s r a :=
  (derivesB_eq m lv r a most).trans (derivesG_congr fun x hx => litD_eq h (hb x hx))

def whyR (m s : List Int) (rules : List GRule) (k a : Int) : Option Why :=
  if 0 ≤ firstI (fun r => derivesR m s r a) rules 0 then some ⟨a, firstI (fun r => derivesR m s r a) rules 0, k⟩ else none
def nowR (m s : List Int) (rules : List GRule) (k : Int) : List Why := (m.filter fun a => !inB s a).filterMap (whyR m s rules k)
def exRGo (m : List Int) (rules : List GRule) : Nat → Int → List Int → List Why → List Why × List Int
  | 0, _, s, whys => (whys, s)
  | f + 1, k, s, whys => exRGo m rules f (k + 1) (s ++ (nowR m s rules k).map (·.atom)) (whys ++ nowR m s rules k)
def explainR (p : GProg) (m : List Int) : Expl :=
  ⟨(exRGo m p.rules m.length 1 [] []).1, m.filter fun a => !inB (exRGo m p.rules m.length 1 [] []).2 a⟩

theorem firstI_congr {α : Type} {p q : α → Bool} : ∀ (l : List α) (k : Int), (∀ x ∈ l, p x = q x) → firstI p l k = firstI q l k
  | [], _, _ => rfl
  | x :: l, k, h => by
    simp only [firstI]
    rw [h x (by simp), firstI_congr l (k + 1) fun y hy => h y (by simp [hy])]
theorem whyR_atom {m s : List Int} {rules : List GRule} {k a : Int} {y : Why} (h : whyR m s rules k a = some y) : y.atom = a ∧ y.level = k ∧ 0 ≤ y.rule := by
  unfold whyR at h
  split at h
  · rename_i c
    simp only [Option.some.injEq] at h
    subst h
    exact ⟨rfl, rfl, c⟩
  · cases h
theorem nowR_nil_any {m s : List Int} {rules : List GRule} {k : Int} (k' : Int) (h : nowR m s rules k = []) : nowR m s rules k' = [] := by
  unfold nowR at *
  rw [List.filterMap_eq_nil_iff] at *
  intro a ha
  have := h a ha
  unfold whyR at *
  split at this
  · cases this
  · rename_i c; rw [if_neg c]
theorem exRGo_stop {m s : List Int} {rules : List GRule} : ∀ (f : Nat) (k : Int) (whys : List Why), nowR m s rules k = [] → exRGo m rules f k s whys = (whys, s)
  | 0, _, _, _ => rfl
  | f + 1, k, whys, h => by
    unfold exRGo
    rw [h, List.map_nil, List.append_nil, List.append_nil]
    exact exRGo_stop f (k + 1) whys (nowR_nil_any _ h)

theorem setLev_out (k : Int) : ∀ (now : List Why) (lv : List Int) (a : Nat), (∀ y ∈ now, y.atom.toNat ≠ a) → (setLev lv now k).getD a 0 = lv.getD a 0
  | [], _, _, _ => rfl
  | y :: now, lv, a, h => by
    show (setLev (lv.set y.atom.toNat k) now k).getD a 0 = _
    rw [setLev_out k now _ a fun z hz => h z (by simp [hz])]
    have := h y (by simp)
    simp [List.getD, this]

structure ExInv (m lv s left : List Int) (n : Nat) (k : Int) : Prop where
  pos : 1 ≤ k
  len : lv.length = n + 1
  hleft : left = m.filter fun a => !inB s a
  sub : ∀ x ∈ s, x ∈ m
  lev : ∀ x ∈ m, (1 ≤ lv.getD x.toNat 0 ↔ x ∈ s) ∧ lv.getD x.toNat 0 ≤ k - 1 ∧ 0 ≤ lv.getD x.toNat 0

theorem filter_split (p q : Int → Bool) (l : List Int) : l.filter (fun a => p a && q a) = (l.filter q).filter p := by rw [List.filter_filter]

theorem exGo_eq {n : Nat} {m : List Int} {rules : List GRule} (hm : ∀ x ∈ m, 1 ≤ x ∧ x ≤ n) (hr : ∀ r ∈ rules, ∀ x ∈ r.body, x ≠ 0) :
    ∀ (f : Nat) (k : Int) (left lv s : List Int) (whys : List Why), ExInv m lv s left n k → left.length ≤ f →
      exGo m rules (f + 1) k left lv whys = ⟨(exRGo m rules f k s whys).1, m.filter fun a => !inB (exRGo m rules f k s whys).2 a⟩ := by
  intro f
  induction f with
  | zero =>
    intro k left lv s whys hI hf
    have h0 : left = [] := List.eq_nil_of_length_eq_zero (by omega)
    have hn : nowOf m lv rules k left = [] := by rw [h0]; rfl
    unfold exGo
    rw [if_pos hn]
    show (⟨whys, left⟩ : Expl) = ⟨whys, _⟩
    rw [hI.hleft]
    rfl
  | succ f ih =>
    intro k left lv s whys hI hf
    have hset : LevSet m lv s (k - 1) := fun x hx => by
      have := hI.lev x hx
      exact ⟨fun h => this.1.1 h.1, fun h => ⟨this.1.2 h, this.2.1⟩⟩
    have hnow : nowOf m lv rules k left = nowR m s rules k := by
      unfold nowOf nowR
      rw [hI.hleft]
      have e : whyOf m lv rules k = whyR m s rules k := by
        funext a
        unfold whyOf whyR
        rw [firstI_congr (q := fun r => derivesR m s r a) rules 0 fun r hr' => derives_eq hset (hr r hr')]
      rw [e]
    unfold exGo
    by_cases h0 : nowOf m lv rules k left = []
    · rw [if_pos h0]
      rw [exRGo_stop (f + 1) k whys (hnow ▸ h0), hI.hleft]
    · rw [if_neg h0]
      unfold exRGo
      rw [hnow]
      have hatoms : ∀ y ∈ nowR m s rules k, y.atom ∈ m ∧ y.atom ∉ s := fun y hy => by
        obtain ⟨a, ha, hw⟩ := List.mem_filterMap.1 hy
        have := (whyR_atom hw).1
        rw [List.mem_filter] at ha
        rw [this]
        refine ⟨ha.1, fun hs => ?_⟩
        have h2 := ha.2
        rw [(inB_iff s a).2 hs] at h2
        cases h2
      have hstay : ∀ a ∈ m, stay (setLev lv (nowR m s rules k) k) a = !inB (s ++ (nowR m s rules k).map (·.atom)) a := by
        intro a ha
        have hma := hm a ha
        by_cases hin : ∃ y ∈ nowR m s rules k, y.atom = a
        · obtain ⟨y, hy, rfl⟩ := hin
          have := setLev_hit k (nowR m s rules k) lv y hy (by rw [hI.len]; omega)
          unfold stay
          rw [this]
          have e : inB (s ++ (nowR m s rules k).map (·.atom)) y.atom = true := (inB_iff _ _).2 (List.mem_append.2 (.inr (List.mem_map.2 ⟨y, hy, rfl⟩)))
          rw [e]
          have := hI.pos
          simp; omega
        · have h1 : (setLev lv (nowR m s rules k) k).getD a.toNat 0 = lv.getD a.toNat 0 := setLev_out k _ _ _ fun y hy e => hin ⟨y, hy, by have := hm y.atom (hatoms y hy).1; omega⟩
          unfold stay
          rw [h1]
          have hl := hI.lev a ha
          congr 1
          rw [Bool.eq_iff_iff, decide_eq_true_eq, inB_iff, List.mem_append]
          constructor
          · intro h; exact .inl (hl.1.1 (by omega))
          · rintro (h | h)
            · have := hl.1.2 h; omega
            · obtain ⟨y, hy, e⟩ := List.mem_map.1 h; exact absurd ⟨y, hy, e⟩ hin
      have hleft' : left.filter (stay (setLev lv (nowR m s rules k) k)) = m.filter fun a => !inB (s ++ (nowR m s rules k).map (·.atom)) a := by
        rw [hI.hleft, List.filter_filter]
        apply List.filter_congr
        intro a ha
        rw [hstay a ha]
        cases e : inB s a
        · simp
        · have : inB (s ++ (nowR m s rules k).map (·.atom)) a = true := (inB_iff _ _).2 (List.mem_append.2 (.inl ((inB_iff _ _).1 e)))
          simp [this]
      have hlt : (left.filter (stay (setLev lv (nowR m s rules k) k))).length ≤ f := by
        obtain ⟨y, hy⟩ := List.exists_mem_of_ne_nil _ (hnow ▸ h0 : nowR m s rules k ≠ [])
        have hya := hatoms y hy
        have hyl : y.atom ∈ left := by
          rw [hI.hleft, List.mem_filter]
          refine ⟨hya.1, ?_⟩
          cases e : inB s y.atom
          · rfl
          · exact absurd ((inB_iff _ _).1 e) hya.2
        have hno : ¬ stay (setLev lv (nowR m s rules k) k) y.atom = true := by
          rw [hstay _ hya.1]
          have : inB (s ++ (nowR m s rules k).map (·.atom)) y.atom = true := (inB_iff _ _).2 (List.mem_append.2 (.inr (List.mem_map.2 ⟨y, hy, rfl⟩)))
          simp [this]
        have := List.length_filter_lt_length_iff_exists.2 ⟨y.atom, hyl, hno⟩
        omega
      refine ih (k + 1) _ _ _ _ ⟨by have := hI.pos; omega, by rw [setLev_length]; exact hI.len, hleft', fun x hx => ?_, fun x hx => ?_⟩ hlt
      · rcases List.mem_append.1 hx with hx | hx
        · exact hI.sub x hx
        · obtain ⟨y, hy, rfl⟩ := List.mem_map.1 hx; exact (hatoms y hy).1
      · have hmx := hm x hx
        have hl := hI.lev x hx
        have hp := hI.pos
        by_cases hin : ∃ y ∈ nowR m s rules k, y.atom = x
        · obtain ⟨y, hy, rfl⟩ := hin
          rw [setLev_hit k (nowR m s rules k) lv y hy (by rw [hI.len]; omega)]
          exact ⟨⟨fun _ => List.mem_append.2 (.inr (List.mem_map.2 ⟨y, hy, rfl⟩)), fun _ => hp⟩, by omega, by omega⟩
        · rw [setLev_out k _ _ _ fun y hy e => hin ⟨y, hy, by have := hm y.atom (hatoms y hy).1; omega⟩]
          refine ⟨⟨fun h => List.mem_append.2 (.inl (hl.1.1 h)), fun h => ?_⟩, by omega, hl.2.2⟩
          rcases List.mem_append.1 h with h | h
          · exact hl.1.2 h
          · obtain ⟨y, hy, e⟩ := List.mem_map.1 h; exact absurd ⟨y, hy, e⟩ hin

theorem explainE_eq {p : GProg} {m : List Int} (h : explainErr p m = 0) : explainE p m = explainR p m := by
  obtain ⟨hn0, hn1, hfe, hat⟩ := explain_ok h
  have hmi := atoms_in p.n m none hat
  have hr : ∀ r ∈ p.rules, ∀ x ∈ r.body, x ≠ 0 := fun r hr' x hx => by
    have := okBody_of hn0 (rules_ok hfe r hr')
    exact (this.2.2 x hx).2.2
  unfold explainE explainR
  refine exGo_eq (n := p.n.toNat) (fun x hx => by have := hmi x hx; omega) hr m.length 1 m _ [] [] ⟨by omega, by simp, ?_, by simp, fun x hx => ?_⟩ (Nat.le_refl _)
  · simp only [inB, Bool.not_false]; exact (List.filter_eq_self.2 fun _ _ => rfl).symm
  · have : (List.replicate (p.n.toNat + 1) (0 : Int)).getD x.toNat 0 = 0 := by
      simp only [List.getD, List.getElem?_replicate]; split <;> rfl
    rw [this]; simp
end Go.Proofs.YtaemfafnmhndiaaGreatDoor
namespace Go.Proofs.YtaemfafnmhndiaaGreatDoor

def lowS (l : List Why) (lev : Int) : List Int := (l.filter fun y => decide (y.level < lev)).map (·.atom)
def lexLt (x y : Why) : Bool := !(decide (y.level < x.level) || (x.level == y.level && decide (y.atom ≤ x.atom)))
def whyOkR (p : GProg) (m : List Int) (x : Expl) (i : Nat) : Bool :=
  inB m (x.whys.getD i noWhy).atom && !inB x.rest (x.whys.getD i noWhy).atom && decide (1 ≤ (x.whys.getD i noWhy).level) && decide (0 ≤ (x.whys.getD i noWhy).rule) && decide ((x.whys.getD i noWhy).rule < p.rules.length) &&
    (i == 0 || lexLt (x.whys.getD (i - 1) noWhy) (x.whys.getD i noWhy)) && ((List.range x.whys.length).all fun k => k == i || (x.whys.getD k noWhy).atom != (x.whys.getD i noWhy).atom) &&
    derivesR m (lowS x.whys (x.whys.getD i noWhy).level) (p.rules.getD (x.whys.getD i noWhy).rule.toNat default) (x.whys.getD i noWhy).atom
def checkR (p : GProg) (m : List Int) (x : Expl) : Bool :=
  atomsGo p.n none x.rest && (x.whys.length + x.rest.length == m.length) && x.rest.all (inB m) && (List.range x.whys.length).all (whyOkR p m x)

structure ChkP (p : GProg) (m : List Int) (x : Expl) : Prop where
  rest : x.rest.Pairwise (· < ·)
  restIn : ∀ a ∈ x.rest, a ∈ m
  len : x.whys.length + x.rest.length = m.length
  ok : ∀ y ∈ x.whys, y.atom ∈ m ∧ y.atom ∉ x.rest ∧ 1 ≤ y.level ∧ 0 ≤ y.rule ∧ y.rule < p.rules.length
  nd : (x.whys.map (·.atom)).Nodup
  lex : sortedB lexW x.whys = true
  der : ∀ y ∈ x.whys, derivesR m (lowS x.whys y.level) (p.rules.getD y.rule.toNat default) y.atom = true

theorem atomsGo_of (n : Int) : ∀ (l : List Int) (prev : Option Int), (∀ x ∈ l, 1 ≤ x ∧ x ≤ n) → l.Pairwise (· < ·) → (∀ p, prev = some p → ∀ x ∈ l, p < x) → atomsGo n prev l = true
  | [], prev, _, _, _ => by cases prev <;> rfl
  | x :: l, prev, h1, h2, h3 => by
    have hx := h1 x (by simp)
    have hp := List.pairwise_cons.1 h2
    have ih := atomsGo_of n l (some x) (fun y hy => h1 y (by simp [hy])) hp.2 (fun p hp' y hy => by cases hp'; exact hp.1 y hy)
    cases prev with
    | none => simp only [atomsGo]; rw [if_neg (by omega)]; exact ih
    | some q => simp only [atomsGo]; rw [if_neg (by omega), if_neg (by have := h3 q rfl x (by simp); omega)]; exact ih

theorem sortedB_iff {α : Type} (le : α → α → Bool) (d : α) : ∀ (l : List α), sortedB le l = true ↔ ∀ i, i + 1 < l.length → le (l.getD i d) (l.getD (i + 1) d) = true
  | [] => by simp [sortedB]
  | [x] => by simp [sortedB]
  | x :: y :: l => by
    have ih := sortedB_iff le d (y :: l)
    simp only [sortedB, Bool.and_eq_true]
    constructor
    · rintro ⟨h1, h2⟩ i hi
      cases i with
      | zero => simpa using h1
      | succ i => have := ih.1 h2 i (by simpa using hi); simpa using this
    · intro h
      exact ⟨by simpa using h 0 (by simp), ih.2 fun i hi => by have := h (i + 1) (by simpa using hi); simpa using this⟩

theorem sorted_le_of_lt : ∀ (l : List Int), l.Pairwise (· < ·) → sortedB (fun a b => decide (a ≤ b)) l = true
  | [], _ => rfl
  | [x], _ => rfl
  | x :: y :: l, h => by
    have h1 := List.pairwise_cons.1 h
    simp only [sortedB, Bool.and_eq_true, decide_eq_true_eq]
    exact ⟨by have := h1.1 y (by simp); omega, sorted_le_of_lt (y :: l) h1.2⟩
theorem pairwise_of_sorted : ∀ (l : List Int), sortedB (fun a b => decide (a ≤ b)) l = true → l.Pairwise (· ≤ ·)
  | [], _ => List.Pairwise.nil
  | [x], _ => by simp
  | x :: y :: l, h => by
    simp only [sortedB, Bool.and_eq_true, decide_eq_true_eq] at h
    have ih := pairwise_of_sorted (y :: l) h.2
    refine List.pairwise_cons.2 ⟨fun z hz => ?_, ih⟩
    rcases List.mem_cons.1 hz with rfl | hz
    · exact h.1
    · exact Int.le_trans h.1 ((List.pairwise_cons.1 ih).1 z hz)
theorem lt_of_le_nodup : ∀ (l : List Int), l.Pairwise (· ≤ ·) → l.Nodup → l.Pairwise (· < ·)
  | [], _, _ => List.Pairwise.nil
  | x :: l, h, hn => by
    have h1 := List.pairwise_cons.1 h
    have h2 := List.nodup_cons.1 hn
    refine List.pairwise_cons.2 ⟨fun y hy => ?_, lt_of_le_nodup l h1.2 h2.2⟩
    have := h1.1 y hy
    have : x ≠ y := fun e => h2.1 (e ▸ hy)
    omega
theorem nodup_of_lt {l : List Int} (h : l.Pairwise (· < ·)) : l.Nodup := h.imp fun h e => by omega
theorem sorted_sub_eq : ∀ (b a : List Int), a.Pairwise (· < ·) → b.Pairwise (· < ·) → (∀ x ∈ a, x ∈ b) → b.length ≤ a.length → a = b
  | [], a, _, _, hs, _ => by
    cases a with
    | nil => rfl
    | cons x a => exact absurd (hs x (by simp)) (by simp)
  | y :: b, [], _, _, _, hl => by simp at hl
  | y :: b, x :: a, ha, hb, hs, hl => by
    have ha' := List.pairwise_cons.1 ha
    have hb' := List.pairwise_cons.1 hb
    by_cases e : x = y
    · subst e
      rw [sorted_sub_eq b a ha'.2 hb'.2 (fun z hz => by
        rcases List.mem_cons.1 (hs z (by simp [hz])) with h | h
        · have := ha'.1 z hz; omega
        · exact h) (by simpa using hl)]
    · have hx : x ∈ b := (List.mem_cons.1 (hs x (by simp))).resolve_left e
      have hxy := hb'.1 x hx
      have := nodup_length (x :: a) b (nodup_of_lt ha) (fun z hz => by
        rcases List.mem_cons.1 (hs z hz) with h | h
        · rcases List.mem_cons.1 hz with h2 | h2
          · omega
          · have := ha'.1 z h2; omega
        · exact h)
      simp at hl this; omega

theorem levWhys_out : ∀ (l : List Why) (lv : List Int) (a : Nat), (∀ y ∈ l, y.atom.toNat ≠ a) → (levWhys lv l).getD a 0 = lv.getD a 0
  | [], _, _, _ => rfl
  | y :: l, lv, a, h => by
    show (levWhys (lv.set y.atom.toNat y.level) l).getD a 0 = _
    rw [levWhys_out l _ a fun z hz => h z (by simp [hz])]
    have := h y (by simp)
    simp [List.getD, this]
theorem levWhys_hit : ∀ (l : List Why) (lv : List Int) (y : Why), (∀ z ∈ l, 1 ≤ z.atom) → (l.map (·.atom)).Nodup → y ∈ l → y.atom.toNat < lv.length → (levWhys lv l).getD y.atom.toNat 0 = y.level
  | [], _, _, _, _, h, _ => by simp at h
  | z :: l, lv, y, h1, hn, hy, hlt => by
    rw [List.map_cons, List.nodup_cons] at hn
    show (levWhys (lv.set z.atom.toNat z.level) l).getD _ 0 = _
    rcases List.mem_cons.1 hy with rfl | hy
    · rw [levWhys_out l _ _ fun u hu e => ?_]
      · simp [List.getD, hlt]
      · have := h1 u (by simp [hu])
        have := h1 y (by simp)
        have : u.atom = y.atom := by omega
        exact hn.1 (List.mem_map.2 ⟨u, hu, this⟩)
    · exact levWhys_hit l _ y (fun u hu => h1 u (by simp [hu])) hn.2 hy (by simpa using hlt)

theorem nodup_atoms {l : List Why} (h : (l.map (·.atom)).Nodup) {y z : Why} (hy : y ∈ l) (hz : z ∈ l) (e : y.atom = z.atom) : y = z := by
  induction l with
  | nil => simp at hy
  | cons u l ih =>
    rw [List.map_cons, List.nodup_cons] at h
    rcases List.mem_cons.1 hy with c1 | c1 <;> rcases List.mem_cons.1 hz with c2 | c2
    · rw [c1, c2]
    · subst c1; exact absurd (List.mem_map.2 ⟨z, c2, e.symm⟩) h.1
    · subst c2; exact absurd (List.mem_map.2 ⟨y, c1, e⟩) h.1
    · exact ih h.2 c1 c2

theorem lev_low {n : Int} {m : List Int} {l : List Why} (hm : ∀ x ∈ m, 1 ≤ x ∧ x ≤ n) (hok : ∀ y ∈ l, y.atom ∈ m ∧ 1 ≤ y.level) (hn : (l.map (·.atom)).Nodup) (lev : Int) :
    LevSet m (levWhys (List.replicate (n.toNat + 1) 0) l) (lowS l lev) (lev - 1) := by
  intro x hx
  have hmx := hm x hx
  by_cases hin : ∃ y ∈ l, y.atom = x
  · obtain ⟨y, hy, rfl⟩ := hin
    rw [levWhys_hit l _ y (fun z hz => (hm _ (hok z hz).1).1) hn hy (by simp; omega)]
    have h1 := (hok y hy).2
    constructor
    · intro h
      exact List.mem_map.2 ⟨y, List.mem_filter.2 ⟨hy, by simp; omega⟩, rfl⟩
    · intro h
      obtain ⟨z, hz, e⟩ := List.mem_map.1 h
      rw [List.mem_filter] at hz
      have := nodup_atoms hn hz.1 hy e
      subst this
      have h2 := hz.2
      simp at h2; omega
  · rw [levWhys_out l _ _ fun y hy e => hin ⟨y, hy, by have := hm _ (hok y hy).1; omega⟩]
    have e : (List.replicate (n.toNat + 1) (0 : Int)).getD x.toNat 0 = 0 := by simp only [List.getD, List.getElem?_replicate]; split <;> rfl
    rw [e]
    constructor
    · intro h; omega
    · intro h
      obtain ⟨z, hz, e⟩ := List.mem_map.1 h
      exact absurd ⟨z, (List.mem_filter.1 hz).1, e⟩ hin

theorem derW_eq {p : GProg} {m : List Int} {x : Expl} (h0 : 0 ≤ p.n) (hfe : firstErr p.n p.rules = 0) (hmi : ∀ a ∈ m, 1 ≤ a ∧ a ≤ p.n) (hok : ∀ y ∈ x.whys, y.atom ∈ m ∧ 1 ≤ y.level) (hn : (x.whys.map (·.atom)).Nodup) {y : Why}
    (hy1 : 0 ≤ y.rule) (hy2 : y.rule < p.rules.length) : derW p.rules m (levWhys (List.replicate (p.n.toNat + 1) 0) x.whys) y = derivesR m (lowS x.whys y.level) (p.rules.getD y.rule.toNat default) y.atom := by
  unfold derW
  refine derives_eq (lev_low hmi hok hn y.level) fun z hz => ?_
  have hmem : p.rules.getD y.rule.toNat default ∈ p.rules := by
    have hlt : y.rule.toNat < p.rules.length := by omega
    rw [List.getD_eq_getElem?_getD, List.getElem?_eq_getElem hlt]
    exact List.getElem_mem hlt
  have := okBody_of h0 (rules_ok hfe _ hmem)
  exact (this.2.2 z hz).2.2

theorem valid_chk {p : GProg} {m : List Int} {x : Expl} (h : explainErr p m = 0) : validB p m x = true ↔ ChkP p m x := by
  obtain ⟨hn0, hn1, hfe, hat⟩ := explain_ok h
  have hmi := atoms_in p.n m none hat
  have hms := (atoms_sorted p.n m none hat).2
  have hperm : (allAtoms x).Perm (x.rest ++ x.whys.map (·.atom)) := List.mergeSort_perm _ _
  constructor
  · intro hv
    have hno : ∀ y ∈ x.whys, badWhy p.n p.rules.length y = false := (check_parts (p := p) (m := m) (x := x) (by simp [checkB, h, hv])).2.2.1
    simp only [validB, Bool.and_eq_true, beq_iff_eq] at hv
    obtain ⟨_, hall, hrest, hlex, hder⟩ := hv
    rw [hall] at hperm
    have hnd : (x.rest ++ x.whys.map (·.atom)).Nodup := hperm.nodup_iff.1 (nodup_of_lt hms)
    rw [List.nodup_append] at hnd
    have hmem : ∀ y ∈ x.whys, y.atom ∈ m := fun y hy => hperm.mem_iff.2 (List.mem_append.2 (.inr (List.mem_map.2 ⟨y, hy, rfl⟩)))
    have hbad : ∀ y ∈ x.whys, 1 ≤ y.level ∧ 0 ≤ y.rule ∧ y.rule < p.rules.length := fun y hy => by
      have := hno y hy
      simp [badWhy] at this; omega
    refine ⟨lt_of_le_nodup _ (pairwise_of_sorted _ hrest) hnd.1, fun a ha => hperm.mem_iff.2 (List.mem_append.2 (.inl ha)), ?_, fun y hy => ⟨hmem y hy, fun hr => ?_, hbad y hy⟩, hnd.2.1, hlex, fun y hy => ?_⟩
    · have := hperm.length_eq
      simp at this; omega
    · exact hnd.2.2 y.atom hr y.atom (List.mem_map.2 ⟨y, hy, rfl⟩) rfl
    · rw [← derW_eq hn0 hfe hmi (fun z hz => ⟨hmem z hz, (hbad z hz).1⟩) hnd.2.1 (hbad y hy).2.1 (hbad y hy).2.2]
      exact List.all_eq_true.1 hder y hy
  · intro c
    have hnd : (x.rest ++ x.whys.map (·.atom)).Nodup := List.nodup_append.2 ⟨nodup_of_lt c.rest, c.nd, fun a ha b hb e => by
      obtain ⟨y, hy, rfl⟩ := List.mem_map.1 hb
      exact (c.ok y hy).2.1 (e ▸ ha)⟩
    have hsrt : (allAtoms x).Pairwise (· ≤ ·) := by
      have := List.pairwise_mergeSort (le := fun a b : Int => decide (a ≤ b)) (by intro a b c h1 h2; simp at *; omega) (by intro a b; simp; omega) (x.rest ++ x.whys.map (·.atom))
      exact this.imp fun h => by simpa using h
    have hall : allAtoms x = m := sorted_sub_eq m _ (lt_of_le_nodup _ hsrt (hperm.nodup_iff.2 hnd)) hms (fun z hz => by
      rcases List.mem_append.1 (hperm.mem_iff.1 hz) with hz | hz
      · exact c.restIn z hz
      · obtain ⟨y, hy, rfl⟩ := List.mem_map.1 hz; exact (c.ok y hy).1) (by
      have := hperm.length_eq
      have := c.len
      simp at *; omega)
    have hno : x.whys.any (badWhy p.n p.rules.length) = false := by
      refine Bool.eq_false_iff.2 fun e => ?_
      obtain ⟨y, hy, hb⟩ := List.any_eq_true.1 e
      have h1 := c.ok y hy
      have h2 := hmi _ h1.1
      simp [badWhy] at hb; omega
    simp only [validB, Bool.and_eq_true, beq_iff_eq, hno, hall]
    refine ⟨rfl, trivial, sorted_le_of_lt _ c.rest, c.lex, List.all_eq_true.2 fun y hy => ?_⟩
    rw [derW_eq hn0 hfe hmi (fun z hz => ⟨(c.ok z hz).1, (c.ok z hz).2.2.1⟩) c.nd (c.ok y hy).2.2.2.1 (c.ok y hy).2.2.2.2]
    exact c.der y hy

theorem lexLt_of {x y : Why} (h : lexW x y = true) (hne : x.atom ≠ y.atom) : lexLt x y = true := by
  unfold lexW orderW at h
  unfold lexLt
  simp only [orGo, Lib.compareInt] at h
  simp only [Bool.not_eq_true', Bool.or_eq_false_iff, Bool.and_eq_false_iff, decide_eq_false_iff_not, beq_eq_false_iff_ne]
  grind
theorem lexW_of {x y : Why} (h : lexLt x y = true) : lexW x y = true := by
  unfold lexLt at h
  unfold lexW orderW
  simp only [orGo, Lib.compareInt]
  simp only [Bool.not_eq_true', Bool.or_eq_false_iff, Bool.and_eq_false_iff, decide_eq_false_iff_not, beq_eq_false_iff_ne] at h
  grind

theorem getD_mem {l : List Why} {i : Nat} (h : i < l.length) : l.getD i noWhy ∈ l := by
  rw [List.getD_eq_getElem?_getD, List.getElem?_eq_getElem h]; exact List.getElem_mem h
theorem chk_ref {p : GProg} {m : List Int} {x : Expl} (hmi : ∀ a ∈ m, 1 ≤ a ∧ a ≤ p.n) : ChkP p m x ↔ checkR p m x = true := by
  simp only [checkR, Bool.and_eq_true, beq_iff_eq, List.all_eq_true, List.mem_range]
  have hnd : (x.whys.map (·.atom)).Nodup ↔ ∀ i, i < x.whys.length → ∀ k, k < x.whys.length → k ≠ i → (x.whys.getD k noWhy).atom ≠ (x.whys.getD i noWhy).atom := by
    rw [List.nodup_iff_pairwise_ne, List.pairwise_iff_getElem]
    constructor
    · intro h i hi k hk hne
      simp only [List.getD_eq_getElem?_getD, List.getElem?_eq_getElem hi, List.getElem?_eq_getElem hk, Option.getD_some]
      rcases Nat.lt_or_gt_of_ne hne with c | c
      · have := h k i (by simpa using hk) (by simpa using hi) c
        simpa using this
      · have := h i k (by simpa using hi) (by simpa using hk) c
        simp only [List.getElem_map] at this
        exact fun e => this e.symm
    · intro h i j hi hj hij
      simp only [List.length_map] at hi hj
      have := h j hj i hi (by omega)
      simp only [List.getD_eq_getElem?_getD, List.getElem?_eq_getElem hi, List.getElem?_eq_getElem hj, Option.getD_some] at this
      simpa using this
  constructor
  · intro c
    refine ⟨⟨⟨atomsGo_of _ _ none (fun a ha => hmi a (c.restIn a ha)) c.rest (by simp), c.len⟩, fun a ha => (inB_iff _ _).2 (c.restIn a ha)⟩, fun i hi => ?_⟩
    have hy := getD_mem hi
    have h1 := c.ok _ hy
    unfold whyOkR
    simp only [Bool.and_eq_true, decide_eq_true_eq, Bool.or_eq_true, beq_iff_eq, Bool.not_eq_true', List.all_eq_true, List.mem_range, bne_iff_ne]
    refine ⟨⟨⟨⟨⟨⟨⟨(inB_iff _ _).2 h1.1, ?_⟩, h1.2.2.1⟩, h1.2.2.2.1⟩, h1.2.2.2.2⟩, ?_⟩, fun k hk => ?_⟩, c.der _ hy⟩
    · cases e : inB x.rest (x.whys.getD i noWhy).atom
      · rfl
      · exact absurd ((inB_iff _ _).1 e) h1.2.1
    · cases i with
      | zero => exact .inl rfl
      | succ i =>
        right
        exact lexLt_of ((sortedB_iff lexW noWhy x.whys).1 c.lex i hi) (hnd.1 c.nd (i + 1) hi i (by omega) (by omega))
    · by_cases e : k = i
      · exact .inl e
      · exact .inr (hnd.1 c.nd i hi k hk e)
  · rintro ⟨⟨⟨h1, h2⟩, h3⟩, h4⟩
    have h5 : ∀ i, i < x.whys.length → _ := fun i hi => by
      have := h4 i hi
      unfold whyOkR at this
      simp only [Bool.and_eq_true, decide_eq_true_eq, Bool.or_eq_true, beq_iff_eq, Bool.not_eq_true', List.all_eq_true, List.mem_range, bne_iff_ne] at this
      exact this
    have hget : ∀ y ∈ x.whys, ∃ i, i < x.whys.length ∧ x.whys.getD i noWhy = y := fun y hy => by
      obtain ⟨i, hi, e⟩ := List.mem_iff_getElem.1 hy
      exact ⟨i, hi, by rw [List.getD_eq_getElem?_getD, List.getElem?_eq_getElem hi, Option.getD_some, e]⟩
    refine ⟨(atoms_sorted _ _ none h1).2, fun a ha => (inB_iff _ _).1 (h3 a ha), h2, fun y hy => ?_, hnd.2 fun i hi k hk hne => ?_, (sortedB_iff lexW noWhy _).2 fun i hi => ?_, fun y hy => ?_⟩
    · obtain ⟨i, hi, rfl⟩ := hget y hy
      obtain ⟨⟨⟨⟨⟨⟨⟨a1, a2⟩, a3⟩, a4⟩, a5⟩, a6⟩, a7⟩, a8⟩ := h5 i hi
      exact ⟨(inB_iff _ _).1 a1, (fun e => by rw [(inB_iff _ _).2 e] at a2; cases a2), a3, a4, a5⟩
    · obtain ⟨⟨_, a7⟩, _⟩ := h5 i hi
      exact (a7 k hk).resolve_left hne
    · obtain ⟨⟨⟨_, a6⟩, _⟩, _⟩ := h5 (i + 1) hi
      exact lexW_of (a6.resolve_left (by omega))
    · obtain ⟨i, hi, rfl⟩ := hget y hy
      exact (h5 i hi).2

theorem validB_eq {p : GProg} {m : List Int} {x : Expl} (h : explainErr p m = 0) : validB p m x = checkR p m x := by
  obtain ⟨_, _, _, hat⟩ := explain_ok h
  rw [Bool.eq_iff_iff, valid_chk h, chk_ref (atoms_in p.n m none hat)]
end Go.Proofs.YtaemfafnmhndiaaGreatDoor
