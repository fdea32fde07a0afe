/- Part 6 of the proof: Sorted, Explain3, Explain4, Explain5, Explain6, Check1. Conditions: those that each theorem names. -/
import Derived.Test.YtaemfafnmhndiaaGreatDoorPb5
import Derived.Test.YtaemfafnmhndiaaGreatDoorPb3
import Derived.Test.YtaemfafnmhndiaaGreatDoorPb1
import Derived.Deep.RegionHeld3
import Derived.Laws.MakeOwn
namespace Go.Proofs.YtaemfafnmhndiaaGreatDoor
open Go.RowKit

def orderW (x y : Why) : Int := orGo [Lib.compareInt x.level y.level, Lib.compareInt x.atom y.atom]
/-- Each element stands in order behind the one before it. -/
def sortedB {α : Type} (le : α → α → Bool) : List α → Bool
  | x :: y :: l => le x y && sortedB le (y :: l)
  | _ => true
theorem sorted_tail {α : Type} (le : α → α → Bool) (x : α) (l : List α) (h : sortedB le l = false) : sortedB le (x :: l) = false := by
  cases l with
  | nil => simp [sortedB] at h
  | cons y l => simp [sortedB, h]
theorem sorted_drop {α : Type} (le : α → α → Bool) : ∀ (l : List α) (k : Nat), sortedB le (l.drop k) = false → sortedB le l = false
  | _, 0, h => by simpa using h
  | [], k + 1, h => by simp [sortedB] at h
  | x :: l, k + 1, h => sorted_tail le x l (sorted_drop le l k (by simpa using h))
theorem sorted_step {α : Type} (le : α → α → Bool) {l : List α} {k : Nat} {x y : α} (hx : l.drop k = x :: l.drop (k + 1)) (hy : l.drop (k + 1) = y :: l.drop (k + 1 + 1)) :
    sortedB le (l.drop k) = (le x y && sortedB le (l.drop (k + 1))) := by rw [hx, hy]; rfl

theorem less_any (x y : Int) (w : World) : Calls Tryz.prog 144 #[.int .i64 x, .int .i64 y] w fun e w' => e = .returned (.bool (decide (x < y))) ∧ ∃ m, w' = w.drewN m :=
  (Tryz.cmp_Less_int2 x y w).mono fun _ _ h => ⟨h.1, 0, h.2⟩
theorem ordCells (w : World) (b : Nat) (hb : b = w.heap.size) (x y : Why) : IsInts (w.alloc (.cells #[.int .i64 (Lib.compareInt x.level y.level), .int .i64 (Lib.compareInt x.atom y.atom)] 3)).drew (some ⟨b, 0, none⟩) 2 [Lib.compareInt x.level y.level, Lib.compareInt x.atom y.atom] :=
  (IsInts.fresh (W := w) hb rfl (by omega) rfl (by intro z hz; simp at hz; rcases hz with rfl | rfl <;> exact cmp_i64 _ _) : IsInts (w.alloc (.cells #[.int .i64 (Lib.compareInt x.level y.level), .int .i64 (Lib.compareInt x.atom y.atom)] 3)) (some ⟨b, 0, none⟩) 2 [Lib.compareInt x.level y.level, Lib.compareInt x.atom y.atom]).below ⟨rfl, rfl, rfl, Nat.le_refl _, fun _ _ => rfl⟩
set_option maxRecDepth 100000 in
set_option maxHeartbeats 4000000 in
theorem orderedS1_any (w : World) (x y : Why) :
    Calls Tryz.prog 147 #[.agg #[.int .i64 x.atom, .int .i64 x.rule, .int .i64 x.level], .agg #[.int .i64 y.atom, .int .i64 y.rule, .int .i64 y.level]] w fun e w' => e = .returned (.int .i64 (orderW x y)) ∧ Below w.heap.size w w' := by
  go_enter Tryz.func147, Tryz.ntmps147
  go_wp2
  go_region_held3 (fun w' => w'.cell? ⟨w.heap.size, 2, none⟩ = some (.int .i64 x.level) ∧ w'.cell? ⟨w.heap.size + 1, 2, none⟩ = some (.int .i64 y.level) ∧ w'.cell? ⟨w.heap.size, 0, none⟩ = some (.int .i64 x.atom) ∧ w'.cell? ⟨w.heap.size + 1, 0, none⟩ = some (.int .i64 y.atom)) (go_keep) (first
    | (go_at_call 139; refine (Tryz.cmp_Compare_int _ _ _).mono ?_; rintro e w1 ⟨rfl, rfl⟩)
    | (go_at_call 148; refine (or_any _ _ _ _ [Lib.compareInt x.level y.level, Lib.compareInt x.atom y.atom] ?_).mono ?_; (· exact ordCells _ _ (by simp) x y); rintro e w1 ⟨rfl, m3, rfl⟩))
  go_wp2
  go_ret
  exact ⟨rfl, by (repeat (first | with_reducible exact Below.refl _ _ | with_reducible refine below_drewN_of ?_ _ | with_reducible refine below_alloc_of ?_ _ | with_reducible refine below_set_of ?_ _ _ _ (by simp) | with_reducible assumption | exact ⟨rfl, rfl, rfl, Nat.le_refl _, fun _ _ => rfl⟩))⟩

set_option maxHeartbeats 1000000 in
theorem isSorted_any (w : World) (oa : Option Addr) (len cap : Nat) (l : List Int) (h : IsInts w oa len l) :
    Calls Tryz.prog 110 #[.slice oa len cap] w fun e w' => e = .returned (.bool (sortedB (fun x y => decide (x ≤ y)) l)) ∧ ∃ m, w' = w.drewN m := by
  have hm := h.hmax
  have hl' := Lib.hid h.hlen
  rcases Nat.eq_zero_or_pos len with h0 | h0
  · subst h0
    obtain rfl : l = [] := List.eq_nil_of_length_eq_zero hl'.out
    go_enter Tryz.func110, Tryz.ntmps110
    go_wp2
    go_loopw [3] (fun i wr => i = .int .i64 (-1) ∧ wr = w) (fun _ _ => 0)
    case atStart => exact ⟨rfl, rfl⟩
    case round =>
      obtain ⟨rfl, rfl⟩ := hrel
      go_wp2
      go_ret
      exact ⟨rfl, 0, rfl⟩
  · go_enter Tryz.func110, Tryz.ntmps110
    go_wp2
    go_loopw [3] (fun i wr => ∃ (k q : Nat), i = .int .i64 k ∧ wr = w.drewN q ∧ k < len ∧ Hid (sortedB (fun x y => decide (x ≤ y)) (l.drop k) = true)) (fun i _ => (intOf i).toNat)
    case atStart => exact ⟨len - 1, 0, by go_num, rfl, by omega, by
      have : l.drop (len - 1) = [l[len - 1]'(by rw [hl'.out]; omega)] := by
        rw [List.drop_eq_getElem_cons (by rw [hl'.out]; omega), List.drop_eq_nil_of_le (by rw [hl'.out]; omega)]
      rw [Hid, this]; rfl⟩
    case round =>
      obtain ⟨k, q, rfl, rfl, hk, hso⟩ := hrel
      rcases k with _ | k
      · go_wp2
        go_ret
        exact ⟨ret_bool (by have := hso.out; rw [List.drop_zero] at this; exact this.symm), q, rfl⟩
      · obtain ⟨b, off, y, rfl, hc1, hy1, hy2, hd1, hg1⟩ := h.at_ (k := k + 1) hk
        obtain ⟨b', off', x, he, hc0, hx1, hx2, hd0, hg0⟩ := h.at_ (k := k) (by omega)
        obtain ⟨rfl, rfl⟩ : b = b' ∧ off = off' := by simpa using he
        clear he
        have e1 : ((k:Int) + 1).toNat = k + 1 := by omega
        have e2 : (0:Int) ≤ k := by omega
        have e3 : (k:Int) + 1 < len := by omega
        have e4 : (k:Int) < len := by omega
        have e5 : (0:Int) ≤ (k:Int) + 1 := by omega
        have e6 : (0:Int) < (k:Int) + 1 := by omega
        have e7 : IntKind.i64.wrap (k:Int) = k := by rw [IntKind.wrap_i64]; omega
        have hst : Hid (sortedB (fun x y => decide (x ≤ y)) (l.drop k) = decide (x ≤ y)) := by
          rw [Hid, sorted_step _ hd0.out hd1.out, hso.out, Bool.and_true]
        go_wp2_with fail
        go_quiet ((go_at_call 144; exact quiet_at (less_any _ _ _)))
        by_cases hxy : y < x
        · go_wp2
          go_ret
          exact ⟨ret_bool (by rw [sorted_drop _ l k]; rw [hst.out]; simp [hxy]), _, (by first | rfl | exact World.drewN_drewN _ _ _ | (simp only [World.drewN_drewN]; rfl))⟩
        · go_wp2
          go_roundw
          case rel => exact ⟨k, _, by go_num, (by first | rfl | exact World.drewN_drewN _ _ _ | (simp only [World.drewN_drewN]; rfl)), by omega, by rw [Hid, hst.out]; simp; omega⟩
          case measure => simp [intOf]
def lexW (x y : Why) : Bool := decide (0 ≤ orderW y x)
set_option maxHeartbeats 1000000 in
theorem isSortedW_any (w : World) (oa : Option Addr) (len cap : Nat) (l : List Why) (h : IsWhys w oa len l) :
    Calls Tryz.prog 146 #[.slice oa len cap, .func (.func 147) #[] #[]] w fun e w' => e = .returned (.bool (sortedB lexW l)) ∧ Below w.heap.size w w' := by
  have hm := h.hmax
  have hl' := Lib.hid h.hlen
  rcases Nat.eq_zero_or_pos len with h0 | h0
  · subst h0
    obtain rfl : l = [] := List.eq_nil_of_length_eq_zero hl'.out
    go_enter Tryz.func146, Tryz.ntmps146
    go_wp2
    go_loopw [5] (fun i wr => i = .int .i64 (-1) ∧ wr = w) (fun _ _ => 0)
    case atStart => exact ⟨rfl, rfl⟩
    case round =>
      obtain ⟨rfl, rfl⟩ := hrel
      go_wp2
      go_ret
      exact ⟨rfl, Below.refl _ _⟩
  · go_enter Tryz.func146, Tryz.ntmps146
    go_wp2
    go_loopw [5] (fun i wr => ∃ (k : Nat), i = .int .i64 k ∧ Hid (Below w.heap.size w wr) ∧ k < len ∧ Hid (sortedB lexW (l.drop k) = true)) (fun i _ => (intOf i).toNat)
    case atStart => exact ⟨len - 1, by go_num, Below.refl _ _, by omega, by
      have : l.drop (len - 1) = [l[len - 1]'(by rw [hl'.out]; omega)] := by
        rw [List.drop_eq_getElem_cons (by rw [hl'.out]; omega), List.drop_eq_nil_of_le (by rw [hl'.out]; omega)]
      rw [Hid, this]; rfl⟩
    case round =>
      obtain ⟨k, rfl, HB, hk, hso⟩ := hrel
      rcases k with _ | k
      · go_wp2
        go_ret
        exact ⟨ret_bool (by have := hso.out; rw [List.drop_zero] at this; exact this.symm), HB.out⟩
      · obtain ⟨b, off, y, rfl, hb, c0, c1, c2, hy1, hy2, hy3, hd1, hg1⟩ := (h.below HB.out).at_ (k := k + 1) hk
        obtain ⟨b', off', x, he, hb', d0, d1, d2, hx1, hx2, hx3, hd0, hg0⟩ := (h.below HB.out).at_ (k := k) (by omega)
        obtain ⟨rfl, rfl⟩ : b = b' ∧ off = off' := by simpa using he
        clear he
        have e1 : ((k:Int) + 1).toNat = k + 1 := by omega
        have e2 : (0:Int) ≤ k := by omega
        have e3 : (k:Int) + 1 < len := by omega
        have e4 : (k:Int) < len := by omega
        have e5 : (0:Int) ≤ (k:Int) + 1 := by omega
        have e6 : (0:Int) < (k:Int) + 1 := by omega
        have e7 : IntKind.i64.wrap (k:Int) = k := by rw [IntKind.wrap_i64]; omega
        have hst : Hid (sortedB lexW (l.drop k) = lexW x y) := by
          rw [Hid, sorted_step _ hd0.out hd1.out, hso.out, Bool.and_true]
        have A0 := laterC c0
        have A1 := laterC c1
        have A2 := laterC c2
        have B0 := laterC d0
        have B1 := laterC d1
        have B2 := laterC d2
        clear c0 c1 c2 d0 d1 d2
        go_wp2_with fail
        (refine wp_region_later (by kernel_rfl) (by kernel_rfl) ?_; (repeat (any_goals (first | go_big_quiet_step ((go_at_call 147; exact call_later (orderedS1_any _ _ _))) | ((fail_if_success (refine split_guard (b := true) rfl rfl ?_ ?_)); (fail_if_success (refine split_guard (b := false) rfl rfl ?_ ?_)); (refine split_guard rfl rfl (fun hb => ?_) (fun hb => ?_) <;> rw [hb]))))); all_goals (refine wpQuiet_nil ?_; intro wq hbq))
        by_cases hxy : orderW y x < 0
        · go_wp2
          go_ret
          exact ⟨ret_bool (by rw [sorted_drop _ l k]; rw [hst.out]; simp [lexW]; omega), below_trans_of HB.out hbq⟩
        · go_wp2
          go_roundw
          case rel => exact ⟨k, by go_num, below_trans_of HB.out hbq, by omega, by rw [Hid, hst.out]; simp [lexW]; omega⟩
          case measure => simp [intOf]

set_option maxHeartbeats 1000000 in
theorem eordered_any (w : World) (oa : Option Addr) (len cap : Nat) (l : List Why) (h : IsWhys w oa len l) :
    Calls Tryz.prog 111 #[.slice oa len cap] w fun e w' => e = .returned (.bool (sortedB lexW l)) ∧ Below w.heap.size w w' := by
  go_enter Tryz.func111, Tryz.ntmps111
  go_wp2_with (go_at_call 146; refine (isSortedW_any _ _ _ _ _ h).mono ?_; rintro e w1 ⟨rfl, hb1⟩)
  go_ret
  exact ⟨rfl, hb1⟩
end Go.Proofs.YtaemfafnmhndiaaGreatDoor
namespace Go.Proofs.YtaemfafnmhndiaaGreatDoor
open Go.RowKit Go.Maps Go.WideMaps Go.Sort

def whyOf (m lv : List Int) (rules : List GRule) (k a : Int) : Option Why :=
  if 0 ≤ firstI (fun r => derivesB m lv r a (k - 1)) rules 0 then some ⟨a, firstI (fun r => derivesB m lv r a (k - 1)) rules 0, k⟩ else none
def nowOf (m lv : List Int) (rules : List GRule) (k : Int) (left : List Int) : List Why := left.filterMap (whyOf m lv rules k)
def setLev (lv : List Int) (now : List Why) (k : Int) : List Int := now.foldl (fun lv y => lv.set y.atom.toNat k) lv
def stay (lv : List Int) (a : Int) : Bool := !decide (0 < lv.getD a.toNat 0)
def exGo (m : List Int) (rules : List GRule) : Nat → Int → List Int → List Int → List Why → Expl
  | 0, _, left, _, whys => ⟨whys, left⟩
  | f + 1, k, left, lv, whys =>
    if nowOf m lv rules k left = [] then ⟨whys, left⟩
    else exGo m rules f (k + 1) (left.filter (stay (setLev lv (nowOf m lv rules k left) k))) (setLev lv (nowOf m lv rules k left) k) (whys ++ nowOf m lv rules k left)
def explainE (p : GProg) (m : List Int) : Expl := exGo m p.rules (m.length + 1) 1 m (List.replicate (p.n.toNat + 1) 0) []

theorem explain_ok {p : GProg} {m : List Int} (h : explainErr p m = 0) : 0 ≤ p.n ∧ p.n ≤ 4000 ∧ firstErr p.n p.rules = 0 ∧ atomsGo p.n none m = true := by
  unfold explainErr at h
  split at h
  · omega
  · rename_i c
    unfold checkErr at h
    split at h
    · contradiction
    · rename_i d
      have hv : validErr p = 0 := Classical.byContradiction fun e => d e
      obtain ⟨h1, h2, h3⟩ := valid_rules hv
      refine ⟨h1, h2, h3, ?_⟩
      cases e : atomsGo p.n none m
      · rw [e] at h; simp at h
      · rfl
theorem atoms_sorted (n : Int) : ∀ (l : List Int) (prev : Option Int), atomsGo n prev l = true → (∀ p, prev = some p → ∀ x ∈ l, p < x) ∧ l.Pairwise (· < ·)
  | [], _, _ => by simp
  | x :: l, prev, h => by
    have h1 : ¬ (x < 1 ∨ n < x) := fun c => by simp [atomsGo, c] at h
    have hx : (∀ p, prev = some p → p < x) ∧ atomsGo n (some x) l = true := by
      cases prev with
      | none => simp only [atomsGo, if_neg h1] at h; exact ⟨by simp, h⟩
      | some p =>
        simp only [atomsGo, if_neg h1] at h
        by_cases c : x ≤ p
        · rw [if_pos c] at h; cases h
        · rw [if_neg c] at h; exact ⟨fun q hq => by cases hq; omega, h⟩
    obtain ⟨ih1, ih2⟩ := atoms_sorted n l _ hx.2
    refine ⟨fun p hp y hy => ?_, List.pairwise_cons.2 ⟨fun y hy => ih1 x rfl y hy, ih2⟩⟩
    rcases List.mem_cons.1 hy with rfl | hy
    · exact hx.1 p hp
    · have := hx.1 p hp; have := ih1 x rfl y hy; omega

/-- What Explain hands back. -/
def RetExpl (w : World) (x : Expl) (err : Int) (e : Ending) (w' : World) : Prop :=
  ∃ ow lw cw or lr cr, e = .returned (.tuple #[.agg #[.slice ow lw cw, .slice or lr cr], .int .i64 err]) ∧ IsExpl w' ow lw or lr x ∧ Below w.heap.size w w'

def levCells (lv : List Int) : Array Value := (lv.map (Value.int .i64)).toArray
theorem madeCells_zero (n : Nat) : madeCells (Value.int .i64 0).cells n = levCells (List.replicate n 0) := by
  apply Array.ext
  · simp [madeCells, levCells]
  · intro i h1 h2; simp [madeCells, levCells, Value.cells, Nat.mod_one]

set_option maxRecDepth 100000 in
set_option maxHeartbeats 4000000 in
theorem explain_bad (w : World) (p : GProg) (n : Int) (on : Option Addr) (ln cn : Nat) (os : Option Addr) (ls cs : Nat) (or : Option Addr) (lr cr : Nat) (om : Option Addr) (lm cm : Nat)
    (oa : Option Addr) (len cap : Nat) (m : List Int) (h : IsProg w n on ln os ls or lr om lm p) (hm : IsInts w oa len m) (he : ¬ explainErr p m = 0) :
    Calls Tryz.prog 14 #[.agg #[.int .i64 n, .slice on ln cn, .slice os ls cs, .slice or lr cr, .slice om lm cm], .slice oa len cap] w (RetExpl w ⟨[], []⟩ (explainErr p m)) := by
  have hn := h.hn
  subst hn
  have hc1 : (explainErr p m != 0) = true := by simpa using he
  have He := Lib.hid he
  clear he
  go_enter Tryz.func14, Tryz.ntmps14
  go_wp2_with fail
  refine (echeck_any _ _ _ _ _ _ _ _ _ _ _ _ _ _ _ _ _ _ _ (h.below ?_) (hm.below ?_)).mono ?_
  · (repeat (first | with_reducible exact Below.refl _ _ | with_reducible refine below_drewN_of ?_ _ | with_reducible refine below_alloc_of ?_ _ | with_reducible refine below_set_of ?_ _ _ _ (by simp) | with_reducible assumption | exact ⟨rfl, rfl, rfl, Nat.le_refl _, fun _ _ => rfl⟩))
  · (repeat (first | with_reducible exact Below.refl _ _ | with_reducible refine below_drewN_of ?_ _ | with_reducible refine below_alloc_of ?_ _ | with_reducible refine below_set_of ?_ _ _ _ (by simp) | with_reducible assumption | exact ⟨rfl, rfl, rfl, Nat.le_refl _, fun _ _ => rfl⟩))
  rintro e w1 ⟨rfl, hb1⟩
  have hoc := oldCell hb1
  have hof := oldFrozen hb1
  have hsz1 : w.heap.size + 1 < w1.heap.size := by have := hb1.size; simp at this; omega
  have HB1 := Lib.hid (below_trans_of (below_alloc_of (below_alloc w _) _) hb1)
  clear hb1
  go_wp2_with fail
  refine bodyPost_ret (v := .tuple #[.agg #[.slice none 0 0, .slice none 0 0], .int .i64 (explainErr p m)]) ?_ rfl ?_
  · simp [results, Tryz.results14, go_sem, hoc]
  · refine ⟨none, 0, 0, none, 0, 0, rfl, ?_, ?_⟩
    · exact ⟨⟨rfl, by omega, fun h => absurd h (by omega)⟩, IsInts.nil_ _ _⟩
    · exact below_set_of (below_set_of HB1.out _ _ _ (Nat.le_succ _)) _ _ _ (Nat.le_succ _)

end Go.Proofs.YtaemfafnmhndiaaGreatDoor
namespace Go.Proofs.YtaemfafnmhndiaaGreatDoor
open Go.RowKit Go.Maps Go.WideMaps Go.Sort

theorem cells_of_heap {w : World} {b : Nat} {cs : Array Value} {t : TypeId} (h : w.heap[b]? = some (.cells cs t (0, 0))) : (∀ j, w.cell? ⟨b, j, none⟩ = cs[j]?) ∧ ∀ j, w.frozen? ⟨b, j, none⟩ = false := by
  refine ⟨fun j => ?_, fun j => ?_⟩
  · exact cell_of_row w b j cs t (0, 0) h
  · simp [World.frozen?, h]

/-- What stands fast between Explain's rounds. `s` is the first block behind the check. -/
structure ExS (w wr : World) (s : Nat) (N : Nat) (on : Option Addr) (ln cn : Nat) (os : Option Addr) (ls cs : Nat) (or : Option Addr) (lr cr : Nat) (om : Option Addr) (lm cm : Nat) (oa : Option Addr) (len cap : Nat) (m lv : List Int)
    (ow : Option Addr) (lw cw : Nat) (whys : List Why) : Prop where
  below : Below w.heap.size w wr
  lt : w.heap.size + 2 ≤ s
  size : s + 7 ≤ wr.heap.size
  prog : wr.heap[w.heap.size]? = some (.cells #[.int .i64 N, .slice on ln cn, .slice os ls cs, .slice or lr cr, .slice om lm cm] 27 (0, 0))
  res : wr.heap[w.heap.size + 1]? = some (.cells #[.slice none 0 0, .slice none 0 0] 30 (0, 0))
  outb : wr.heap[s]? = some (.cells #[.slice ow lw cw, .slice none 0 0] 30 (0, 0))
  levb : wr.heap[s + 1]? = some (.cells (levCells lv) 3 (0, 0))
  levn : lv.length = N + 1
  lev64 : ∀ x ∈ lv, I64 x
  hdr : wr.heap[s + 2]? = some (.cells #[.slice (some ⟨s + 1, 0, none⟩) (N + 1) (N + 1)] 23 (0, 0))
  bm : wr.heap[s + 3]? = some (.cells #[.slice oa len cap] 23 (0, 0))
  bl : wr.heap[s + 4]? = some (.cells #[.slice (some ⟨s + 1, 0, none⟩) (N + 1) (N + 1)] 23 (0, 0))
  bin : wr.heap[s + 5]? = some (.cells #[.func (.func 104) #[] #[.pointer (some ⟨s + 3, 0, none⟩)]] 92 (0, 0))
  drv : wr.cell? ⟨s + 6, 0, none⟩ = some (.func (.func 106) #[] #[.pointer (some ⟨s + 5, 0, none⟩), .pointer (some ⟨s + 4, 0, none⟩)])
  own : OwnW wr (s + 7) ow lw cw whys

section
variable {w wr wr' : World} {s : Nat} {N : Nat} {on : Option Addr} {ln cn : Nat} {os : Option Addr} {ls cs : Nat} {or : Option Addr} {lr cr : Nat} {om : Option Addr} {lm cm : Nat} {oa : Option Addr} {len cap : Nat} {m lv : List Int}
    {ow : Option Addr} {lw cw : Nat} {whys : List Why}

theorem ExS.below_ (h : ExS w wr s N on ln cn os ls cs or lr cr om lm cm oa len cap m lv ow lw cw whys) (hb : Below wr.heap.size wr wr') : ExS w wr' s N on ln cn os ls cs or lr cr om lm cm oa len cap m lv ow lw cw whys := by
  have hl := h.lt
  have hs := h.size
  have b : ∀ k, k < s + 7 → wr'.heap[k]? = wr.heap[k]? := fun k hk => hb.block k (by omega)
  exact ⟨below_trans_of h.below hb, hl, Nat.le_trans hs hb.size, (b _ (by omega)).trans h.prog, (b _ (by omega)).trans h.res, (b _ (by omega)).trans h.outb, (b _ (by omega)).trans h.levb, h.levn, h.lev64, (b _ (by omega)).trans h.hdr,
    (b _ (by omega)).trans h.bm, (b _ (by omega)).trans h.bl, (b _ (by omega)).trans h.bin, (hb.cell (p := ⟨s + 6, 0, none⟩) (by show s + 6 < _; omega)).trans h.drv, h.own.below hb⟩

/-- Writes to a block of the call's own that is neither the levels' nor the whys'. -/
theorem ExS.grown (h : ExS w wr s N on ln cn os ls cs or lr cr om lm cm oa len cap m lv ow lw cw whys) (row : Option Nat) (hg : wr.grownBy wr' row) (hrow : ∀ g, row = some g → s + 7 ≤ g) (hne : (Value.slice ow lw cw).ownBlock = none ∨ (Value.slice ow lw cw).ownBlock ≠ row) :
    ExS w wr' s N on ln cn os ls cs or lr cr om lm cm oa len cap m lv ow lw cw whys := by
  have hl := h.lt
  have hs := h.size
  have b : ∀ k, k < s + 7 → wr'.heap[k]? = wr.heap[k]? := fun k hk => hg.block k (by omega) (fun e => by have := hrow k e.symm; omega)
  have bw : Below w.heap.size w wr' := ⟨hg.os.trans h.below.os, hg.tape.trans h.below.tape, hg.output.trans h.below.output, Nat.le_trans h.below.size hg.size, fun k hk => (b k (by omega)).trans (h.below.block k hk)⟩
  exact ⟨bw, hl, Nat.le_trans hs hg.size, (b _ (by omega)).trans h.prog, (b _ (by omega)).trans h.res, (b _ (by omega)).trans h.outb, (b _ (by omega)).trans h.levb, h.levn, h.lev64, (b _ (by omega)).trans h.hdr,
    (b _ (by omega)).trans h.bm, (b _ (by omega)).trans h.bl, (b _ (by omega)).trans h.bin, (World.cell?_of_block (a := ⟨s + 6, 0, none⟩) (b _ (by show s + 6 < _; omega))).trans h.drv, h.own.grown hg hne⟩

/-- Writes to the levels. -/
theorem ExS.levels (h : ExS w wr s N on ln cn os ls cs or lr cr om lm cm oa len cap m lv ow lw cw whys) (hg : wr.grownBy wr' (some (s + 1))) {lv' : List Int} (hlv : wr'.heap[s + 1]? = some (.cells (levCells lv') 3 (0, 0))) (hn : lv'.length = N + 1) (h64 : ∀ x ∈ lv', I64 x) :
    ExS w wr' s N on ln cn os ls cs or lr cr om lm cm oa len cap m lv' ow lw cw whys := by
  have hl := h.lt
  have hs := h.size
  have b : ∀ k, k < s + 7 → k ≠ s + 1 → wr'.heap[k]? = wr.heap[k]? := fun k hk hk1 => hg.block k (by omega) (fun e => hk1 (by injection e))
  have bw : Below w.heap.size w wr' := ⟨hg.os.trans h.below.os, hg.tape.trans h.below.tape, hg.output.trans h.below.output, Nat.le_trans h.below.size hg.size, fun k hk => (b k (by omega) (by omega)).trans (h.below.block k hk)⟩
  refine ⟨bw, hl, Nat.le_trans hs hg.size, (b _ (by omega) (by omega)).trans h.prog, (b _ (by omega) (by omega)).trans h.res, (b _ (by omega) (by omega)).trans h.outb, hlv, hn, h64, (b _ (by omega) (by omega)).trans h.hdr,
    (b _ (by omega) (by omega)).trans h.bm, (b _ (by omega) (by omega)).trans h.bl, (b _ (by omega) (by omega)).trans h.bin, (World.cell?_of_block (a := ⟨s + 6, 0, none⟩) (b _ (by show s + 6 < _; omega) (by show s + 6 ≠ _; omega))).trans h.drv, h.own.grown hg (.inr ?_)⟩
  exact own_ne_block h.own.1 h.levb (by decide)

/-- The elements found are appended, and the new row laid in the result's box. -/
theorem ExS.app (h : ExS w wr s N on ln cn os ls cs or lr cr om lm cm oa len cap m lv ow lw cw whys) (hg : wr.grownBy wr' (Value.slice ow lw cw).ownBlock) {ow' : Option Addr} {lw' cw' : Nat} {whys' : List Why} (ho : OwnW wr' (s + 7) ow' lw' cw' whys') :
    ExS w (wr'.setCell ⟨s, 0, none⟩ (.slice ow' lw' cw')) s N on ln cn os ls cs or lr cr om lm cm oa len cap m lv ow' lw' cw' whys' := by
  have hl := h.lt
  have hs := h.size
  have hrow : ∀ g, (Value.slice ow lw cw).ownBlock = some g → s + 7 ≤ g := fun g hgg => (h.own.1.lt g hgg).1
  have b : ∀ k, k < s + 7 → wr'.heap[k]? = wr.heap[k]? := fun k hk => hg.block k (by omega) (fun e => by have := hrow k e.symm; omega)
  have hsz' := hg.size
  have hob : wr'.heap[s]? = some (.cells #[.slice ow lw cw, .slice none 0 0] 30 (0, 0)) := (b _ (by omega)).trans h.outb
  have c : ∀ k, k ≠ s → (wr'.setCell ⟨s, 0, none⟩ (.slice ow' lw' cw')).heap[k]? = wr'.heap[k]? := fun k hk => by
    simp only [World.setCell, Array.getElem?_modify]
    rw [if_neg (fun e => hk e.symm)]
  have cs_ : (wr'.setCell ⟨s, 0, none⟩ (.slice ow' lw' cw')).heap[s]? = some (.cells #[.slice ow' lw' cw', .slice none 0 0] 30 (0, 0)) := by
    simp [World.setCell, Array.getElem?_modify, hob]
  have hsz2 : (wr'.setCell ⟨s, 0, none⟩ (.slice ow' lw' cw')).heap.size = wr'.heap.size := by simp
  have g2 : wr'.grownBy (wr'.setCell ⟨s, 0, none⟩ (.slice ow' lw' cw')) (some s) := ⟨rfl, rfl, rfl, by omega, fun k _ hk => c k (fun e => hk (by rw [e]))⟩
  have bw : Below w.heap.size w (wr'.setCell ⟨s, 0, none⟩ (.slice ow' lw' cw')) := ⟨hg.os.trans h.below.os, hg.tape.trans h.below.tape, hg.output.trans h.below.output, by rw [hsz2]; exact Nat.le_trans h.below.size hg.size,
    fun k hk => (c k (by omega)).trans ((b k (by omega)).trans (h.below.block k hk))⟩
  have d : ∀ k, k < s + 7 → k ≠ s → (wr'.setCell ⟨s, 0, none⟩ (.slice ow' lw' cw')).heap[k]? = wr.heap[k]? := fun k h1 h2 => (c k h2).trans (b k h1)
  refine ⟨bw, hl, by rw [hsz2]; omega, (d _ (by omega) (by omega)).trans h.prog, (d _ (by omega) (by omega)).trans h.res, cs_, (d _ (by omega) (by omega)).trans h.levb, h.levn, h.lev64, (d _ (by omega) (by omega)).trans h.hdr,
    (d _ (by omega) (by omega)).trans h.bm, (d _ (by omega) (by omega)).trans h.bl, (d _ (by omega) (by omega)).trans h.bin, (World.cell?_of_block (a := ⟨s + 6, 0, none⟩) (d _ (by show s + 6 < _; omega) (by show s + 6 ≠ _; omega))).trans h.drv, ho.grown g2 (.inr fun e => ?_)⟩
  have := (ho.1.lt s e).1
  omega

theorem ExS.ints (h : ExS w wr s N on ln cn os ls cs or lr cr om lm cm oa len cap m lv ow lw cw whys) (hN : N ≤ 4000) : IsInts wr (some ⟨s + 1, 0, none⟩) (N + 1) lv := by
  refine ⟨h.levn, by omega, fun _ => ⟨s + 1, 0, rfl, by have := h.size; omega, fun i x hx => ⟨[.int .i64 x], rfl, ⟨rfl, h.lev64 x (List.mem_of_getElem? hx)⟩, fun j hj => ?_⟩⟩⟩
  obtain rfl : j = 0 := by omega
  rw [(cells_of_heap h.levb).1]
  simp [levCells, hx]

theorem ExS.env (h : ExS w wr s N on ln cn os ls cs or lr cr om lm cm oa len cap m lv ow lw cw whys) (hN : N ≤ 4000) (hm : IsInts w oa len m) (hms : m.Pairwise (· < ·)) (hmi : ∀ x ∈ m, 1 ≤ x ∧ x ≤ N) :
    DerEnv wr (s + 5) (s + 4) (s + 3) m lv oa len cap (some ⟨s + 1, 0, none⟩) (N + 1) (N + 1) :=
  ⟨((cells_of_heap h.bin).1 0).trans rfl, ((cells_of_heap h.bm).1 0).trans rfl, hm.below h.below, hms.imp (fun h => Int.le_of_lt h), ((cells_of_heap h.bl).1 0).trans rfl, h.ints hN, fun x hx => by have := hmi x hx; omega⟩
end

theorem sorted_length : ∀ (l : List Int) (a b : Int), l.Pairwise (· < ·) → (∀ x ∈ l, a ≤ x ∧ x ≤ b) → a ≤ b + 1 → (l.length : Int) ≤ b + 1 - a
  | [], a, b, _, _, h => by simp; omega
  | x :: l, a, b, hp, hx, _ => by
    have h1 := hx x (by simp)
    have ih := sorted_length l (x + 1) b (List.pairwise_cons.1 hp).2 (fun y hy => ⟨by have := (List.pairwise_cons.1 hp).1 y hy; omega, (hx y (by simp [hy])).2⟩) (by omega)
    rw [List.length_cons]; omega
theorem setLev_length (k : Int) : ∀ (now : List Why) (lv : List Int), (setLev lv now k).length = lv.length
  | [], _ => rfl
  | y :: now, lv => by show (setLev (lv.set y.atom.toNat k) now k).length = _; rw [setLev_length k now]; simp
theorem setLev_mem (k : Int) : ∀ (now : List Why) (lv : List Int), ∀ x ∈ setLev lv now k, x = k ∨ x ∈ lv
  | [], _, x, h => .inr h
  | y :: now, lv, x, h => by
    rcases setLev_mem k now (lv.set y.atom.toNat k) x h with h | h
    · exact .inl h
    · rcases List.mem_or_eq_of_mem_set h with h | h
      · exact .inr h
      · exact .inl h
theorem setLev_keep (k : Int) : ∀ (now : List Why) (lv : List Int) (a : Nat), lv.getD a 0 = k → (setLev lv now k).getD a 0 = k
  | [], _, _, h => h
  | y :: now, lv, a, h => by
    refine setLev_keep k now (lv.set y.atom.toNat k) a ?_
    by_cases c : y.atom.toNat = a
    · by_cases d : a < lv.length
      · simp [List.getD, c, d]
      · rw [List.set_eq_of_length_le (by omega)]; exact h
    · rw [← h]; simp [List.getD, List.getElem?_set_ne c]
theorem setLev_hit (k : Int) : ∀ (now : List Why) (lv : List Int) (y : Why), y ∈ now → y.atom.toNat < lv.length → (setLev lv now k).getD y.atom.toNat 0 = k
  | z :: now, lv, y, h, hl => by
    rcases List.mem_cons.1 h with rfl | h
    · exact setLev_keep k now _ _ (by simp [List.getD, hl])
    · exact setLev_hit k now (lv.set z.atom.toNat k) y h (by simpa using hl)
theorem setLev_snoc (lv : List Int) (l : List Why) (y : Why) (k : Int) : setLev lv (l ++ [y]) k = (setLev lv l k).set y.atom.toNat k := by simp [setLev]
theorem whyOf_atom {m lv : List Int} {rules : List GRule} {k a : Int} {y : Why} (h : whyOf m lv rules k a = some y) : y.atom = a ∧ y.level = k ∧ 0 ≤ y.rule := by
  unfold whyOf at h
  split at h
  · rename_i c
    injection h with h
    subst h
    exact ⟨rfl, rfl, c⟩
  · cases h
theorem count_split {α β : Type} (f : α → Option β) (p : α → Bool) : ∀ (l : List α), (∀ x ∈ l, (f x).isSome = true → p x = false) → (l.filterMap f).length + (l.filter p).length ≤ l.length
  | [], _ => by simp
  | x :: l, h => by
    have ih := count_split f p l (fun y hy => h y (by simp [hy]))
    have hx := h x (by simp)
    cases e : f x with
    | none =>
      cases e2 : p x <;> simp [e, e2] <;> omega
    | some y =>
      have := hx (by simp [e])
      simp [e, this]; omega
/-- The counts of one round. -/
theorem round_counts (m lv : List Int) (rules : List GRule) (k : Int) (left : List Int) (hk : 1 ≤ k) (hl : ∀ a ∈ left, 1 ≤ a ∧ a < lv.length) :
    (nowOf m lv rules k left).length + (left.filter (stay (setLev lv (nowOf m lv rules k left) k))).length ≤ left.length := by
  refine count_split _ _ left fun x hx hs => ?_
  obtain ⟨y, hy⟩ := Option.isSome_iff_exists.1 hs
  have ha := whyOf_atom hy
  have hmem : y ∈ nowOf m lv rules k left := List.mem_filterMap.2 ⟨x, hx, hy⟩
  have hlx := hl x hx
  have hh := setLev_hit k _ lv y hmem (by rw [ha.1]; omega)
  rw [ha.1] at hh
  simp only [stay, hh]
  simp; omega
end Go.Proofs.YtaemfafnmhndiaaGreatDoor
namespace Go.Proofs.YtaemfafnmhndiaaGreatDoor
open Go.RowKit Go.Maps Go.WideMaps Go.Sort

theorem firstI_bounds {α : Type} (p : α → Bool) : ∀ (l : List α) (k : Int), 0 ≤ k → -1 ≤ firstI p l k ∧ firstI p l k < k + l.length + 1
  | [], k, hk => by simp [firstI]; omega
  | x :: l, k, hk => by
    have ih := firstI_bounds p l (k + 1) (by omega)
    simp only [firstI, List.length_cons]
    split <;> omega

theorem heap_alloc (w : World) (o : Obj) (k : Nat) : (w.alloc o).heap[k]? = if k = w.heap.size then some o else w.heap[k]? := by
  split
  · rename_i h; rw [h]; exact heap_alloc_new w o
  · rename_i h
    rcases Nat.lt_or_ge k w.heap.size with c | c
    · exact heap_alloc_old w o c
    · rw [Array.getElem?_eq_none c, Array.getElem?_eq_none (by simp; omega)]

def sliceLen : Value → Nat
  | .slice _ n _ => n
  | _ => 0

theorem exS_start {w w1 : World} (N : Nat) (on : Option Addr) (ln cn : Nat) (os : Option Addr) (ls cs : Nat) (or : Option Addr) (lr cr : Nat) (om : Option Addr) (lm cm : Nat) (oa : Option Addr) (len cap : Nat) (m : List Int) (_hN : N ≤ 4000)
    (hb : Below ((w.alloc (.cells #[.int .i64 N, .slice on ln cn, .slice os ls cs, .slice or lr cr, .slice om lm cm] 27)).alloc (.cells #[.slice none 0 0, .slice none 0 0] 30)).heap.size
      ((w.alloc (.cells #[.int .i64 N, .slice on ln cn, .slice os ls cs, .slice or lr cr, .slice om lm cm] 27)).alloc (.cells #[.slice none 0 0, .slice none 0 0] 30)) w1) :
    ExS w (((((((w1.alloc (.cells #[.slice none 0 0, .slice none 0 0] 30)).alloc (.cells (levCells (List.replicate (N + 1) 0)) 3)).alloc (.cells #[.slice (some ⟨w1.heap.size + 1, 0, none⟩) (N + 1) (N + 1)] 23)).alloc
      (.cells #[.slice oa len cap] 23)).alloc (.cells #[.slice (some ⟨w1.heap.size + 1, 0, none⟩) (N + 1) (N + 1)] 23)).alloc (.cells #[.func (.func 104) #[] #[.pointer (some ⟨w1.heap.size + 1 + 1 + 1, 0, none⟩)]] 92)).alloc
      (.cells #[.func (.func 106) #[] #[.pointer (some ⟨w1.heap.size + 1 + 1 + 1 + 2, 0, none⟩), .pointer (some ⟨w1.heap.size + 1 + 1 + 1 + 1, 0, none⟩)]] 86))
      w1.heap.size N on ln cn os ls cs or lr cr om lm cm oa len cap m (List.replicate (N + 1) 0) none 0 0 [] := by
  have hs := hb.size
  simp only [World.size_alloc] at hs
  have hw : Below w.heap.size w w1 := below_trans_of (below_alloc_of (below_alloc w _) _) hb
  have old : ∀ k, k < w1.heap.size → (((((((w1.alloc (.cells #[.slice none 0 0, .slice none 0 0] 30)).alloc (.cells (levCells (List.replicate (N + 1) 0)) 3)).alloc (.cells #[.slice (some ⟨w1.heap.size + 1, 0, none⟩) (N + 1) (N + 1)] 23)).alloc
      (.cells #[.slice oa len cap] 23)).alloc (.cells #[.slice (some ⟨w1.heap.size + 1, 0, none⟩) (N + 1) (N + 1)] 23)).alloc (.cells #[.func (.func 104) #[] #[.pointer (some ⟨w1.heap.size + 1 + 1 + 1, 0, none⟩)]] 92)).alloc
      (.cells #[.func (.func 106) #[] #[.pointer (some ⟨w1.heap.size + 1 + 1 + 1 + 2, 0, none⟩), .pointer (some ⟨w1.heap.size + 1 + 1 + 1 + 1, 0, none⟩)]] 86)).heap[k]? = w1.heap[k]? := fun k hk => by
    simp only [heap_alloc, World.size_alloc]; repeat rw [if_neg (by omega)]
  refine ⟨below_trans_of hw ⟨rfl, rfl, rfl, by simp; omega, old⟩, by omega, by simp, ?_, ?_, ?_, ?_, by simp, fun x hx => ?_, ?_, ?_, ?_, ?_, ?_, OwnW.nil_ _ _⟩
  · rw [old _ (by omega), hb.block _ (by simp only [World.size_alloc]; omega)]; simp only [heap_alloc, World.size_alloc]; repeat (first | rw [if_pos trivial] | rw [if_pos (by omega)] | rw [if_neg (by omega)])
  · rw [old _ (by omega), hb.block _ (by simp only [World.size_alloc]; omega)]; simp only [heap_alloc, World.size_alloc]; repeat (first | rw [if_pos trivial] | rw [if_pos (by omega)] | rw [if_neg (by omega)])
  · simp only [heap_alloc, World.size_alloc]; repeat (first | rw [if_pos trivial] | rw [if_pos (by omega)] | rw [if_neg (by omega)])
  · simp only [heap_alloc, World.size_alloc]; repeat (first | rw [if_pos trivial] | rw [if_pos (by omega)] | rw [if_neg (by omega)])
  · rw [(List.mem_replicate.1 hx).2]; exact ⟨by omega, by omega⟩
  · simp only [heap_alloc, World.size_alloc]; repeat (first | rw [if_pos trivial] | rw [if_pos (by omega)] | rw [if_neg (by omega)])
  · simp only [heap_alloc, World.size_alloc]; repeat (first | rw [if_pos trivial] | rw [if_pos (by omega)] | rw [if_neg (by omega)])
  · simp only [heap_alloc, World.size_alloc]; repeat (first | rw [if_pos trivial] | rw [if_pos (by omega)] | rw [if_neg (by omega)])
  · simp only [heap_alloc, World.size_alloc]; repeat (first | rw [if_pos trivial] | rw [if_pos (by omega)] | rw [if_neg (by omega)])
  · simp only [World.cell?, heap_alloc, World.size_alloc]; repeat (first | rw [if_pos trivial] | rw [if_pos (by omega)] | rw [if_neg (by omega)])
    rfl

end Go.Proofs.YtaemfafnmhndiaaGreatDoor
namespace Go.Proofs.YtaemfafnmhndiaaGreatDoor
open Go.RowKit Go.Maps Go.WideMaps Go.Sort

theorem nowOf_snoc (m lv : List Int) (rules : List GRule) (k : Int) (left : List Int) (j : Nat) (x : Int) (h : left[j]? = some x) : nowOf m lv rules k (left.take (j + 1)) = nowOf m lv rules k (left.take j) ++ (whyOf m lv rules k x).toList := by
  rw [List.take_add_one, h, nowOf, List.filterMap_append, nowOf]
  cases e : whyOf m lv rules k x <;> simp [e]
theorem lev_store {w : World} {s yn : Nat} {L : List Int} {t : TypeId} {k : Int} (o : Obj) (h : w.heap[s]? = some (.cells (levCells L) t (0, 0))) (hs : s < w.heap.size) :
    ((w.setCell ⟨s, yn, none⟩ (.int .i64 k)).alloc o).heap[s]? = some (.cells (levCells (L.set yn k)) t (0, 0)) := by
  rw [heap_alloc, if_neg (by simp; omega)]
  simp only [World.setCell, Array.getElem?_modify, if_pos, h]
  simp [levCells, List.map_set]
theorem grown_set (w : World) (b j : Nat) (v : Value) : w.grownBy (w.setCell ⟨b, j, none⟩ v) (some b) := by
  refine ⟨rfl, rfl, rfl, by simp, fun k _ hk => ?_⟩
  simp only [World.setCell, Array.getElem?_modify]
  rw [if_neg (fun e => hk (by rw [e]))]
theorem grown_trans {w w' w'' : World} {row : Option Nat} (h : w.grownBy w' row) (h' : w'.grownBy w'' row) : w.grownBy w'' row :=
  ⟨h'.os.trans h.os, h'.tape.trans h.tape, h'.output.trans h.output, Nat.le_trans h.size h'.size, fun k hk hr => (h'.block k (Nat.lt_of_lt_of_le hk h.size) hr).trans (h.block k hk hr)⟩
theorem exGo_stop {m : List Int} {rules : List GRule} {f : Nat} {k : Int} {left lv : List Int} {whys now : List Why} (hf : 0 < f) (h : now = nowOf m lv rules k left) (h0 : now.length = 0) : exGo m rules f k left lv whys = ⟨whys, left⟩ := by
  cases f with
  | zero => omega
  | succ f => rw [exGo, if_pos (by rw [← h]; exact List.eq_nil_of_length_eq_zero h0)]
theorem exGo_go {m : List Int} {rules : List GRule} {f : Nat} {k : Int} {left lv : List Int} {whys now : List Why} (hf : 0 < f) (h : now = nowOf m lv rules k left) (h0 : now.length ≠ 0) :
    exGo m rules f k left lv whys = exGo m rules (f - 1) (k + 1) (left.filter (stay (setLev lv now k))) (setLev lv now k) (whys ++ now) := by
  cases f with
  | zero => omega
  | succ f => rw [exGo, if_neg (by rw [← h]; intro e; rw [e] at h0; exact h0 rfl), ← h]; rfl

set_option maxRecDepth 100000 in
set_option maxHeartbeats 4000000 in
theorem explain_good (w : World) (N : Nat) (names : List ByteArray) (shown : List Int) (rules : List GRule) (mins : List GMin) (on : Option Addr) (ln cn : Nat) (os : Option Addr) (ls cs : Nat) (or : Option Addr) (lr cr : Nat) (om : Option Addr) (lm cm : Nat)
    (oa : Option Addr) (len cap : Nat) (m : List Int) (h : IsProg w N on ln os ls or lr om lm ⟨N, names, shown, rules, mins⟩) (hm : IsInts w oa len m) (he : explainErr ⟨N, names, shown, rules, mins⟩ m = 0) :
    Calls Tryz.prog 14 #[.agg #[.int .i64 N, .slice on ln cn, .slice os ls cs, .slice or lr cr, .slice om lm cm], .slice oa len cap] w (RetExpl w (explainE ⟨N, names, shown, rules, mins⟩ m) 0) := by
  obtain ⟨hn0, hn1, hfe, hat⟩ := explain_ok he
  have hrs := Lib.hid (rules_ok hfe)
  have hmi := Lib.hid (atoms_in N m none hat)
  have hms := Lib.hid (atoms_sorted N m none hat).2
  have He := Lib.hid he
  have hmax := hm.hmax
  simp only at hn1
  have hm4 : m.length ≤ 4000 := by have := sorted_length m 1 N hms.out hmi.out (by omega); omega
  have hmlen := hm.hlen
  have hRD : Hid (∀ r ∈ rules, OkBody r ∧ ∀ x ∈ r.head, I64 x) := fun r hr => by
    have := okBody_of hn0 (hrs.out r hr)
    exact ⟨this.1, fun x hx => by have := this.2.1 x hx; exact ⟨by simp only at *; omega, by simp only at *; omega⟩⟩
  clear hfe hat he hn0
  obtain ⟨i0, hi, hz0, hz1, hz2⟩ := info_parts infoInt
  have hmk : ∀ w, (Instr.makeSlice 23 (.int .i64 ((N : Int) + 1)) (.int .i64 ((N : Int) + 1))).run Tryz.prog w = .ok (.slice (some ⟨w.heap.size, 0, none⟩) (N + 1) (N + 1)) (w.alloc (.cells (levCells (List.replicate (N + 1) 0)) 3)) := fun w => by
    have := run_make (P := Tryz.prog) (w := w) 23 3 i0 _ Tryz.underlying23 hi hz0 .i64 .i64 ((N : Int) + 1) ((N : Int) + 1) (by omega) (by omega) (by rw [hz2]; omega) (by omega)
    rw [this, show ((N : Int) + 1).toNat = N + 1 by omega, hz1, Nat.mul_one, madeCells_zero]
  clear hi hz0 hz1 hz2
  go_enter Tryz.func14, Tryz.ntmps14
  go_wp2_with fail
  refine (echeck_any _ _ _ _ _ _ _ _ _ _ _ _ _ _ _ _ _ _ _ (h.below ?_) (hm.below ?_)).mono ?_
  · (repeat (first | with_reducible exact Below.refl _ _ | with_reducible refine below_drewN_of ?_ _ | with_reducible refine below_alloc_of ?_ _ | with_reducible refine below_set_of ?_ _ _ _ (by simp) | with_reducible assumption | exact ⟨rfl, rfl, rfl, Nat.le_refl _, fun _ _ => rfl⟩))
  · (repeat (first | with_reducible exact Below.refl _ _ | with_reducible refine below_drewN_of ?_ _ | with_reducible refine below_alloc_of ?_ _ | with_reducible refine below_set_of ?_ _ _ _ (by simp) | with_reducible assumption | exact ⟨rfl, rfl, rfl, Nat.le_refl _, fun _ _ => rfl⟩))
  rw [He.out]
  rintro e w1 ⟨rfl, hb1⟩
  have hoc := oldCell hb1
  have hof := oldFrozen hb1
  have hsz1 : w.heap.size + 1 < w1.heap.size := by have := hb1.size; simp at this; omega
  have hsz0 : w.heap.size < w1.heap.size := by omega
  have HB1 := Lib.hid hb1
  clear hb1
  go_wp2_with fail
  refine (deriver_any _ _ _ _ _ _ _).mono ?_
  rintro e w2 ⟨rfl, rfl⟩
  go_wp2_with fail
  have HS0 := exS_start N on ln cn os ls cs or lr cr om lm cm oa len cap m (by omega) HB1.out
  refine (clone_any _ _ _ _ m (hm.below HS0.below)).mono ?_
  rintro e w3 ⟨ol, cl, rfl, hol, hb3⟩
  have HS := Lib.hid (HS0.below_ hb3)
  have HL : Hid (OwnI w3 (w1.heap.size + 7) ol len cl m) := by have := hol; simp only [World.size_alloc, Nat.add_assoc, Nat.reduceAdd] at this; exact this
  clear HS0 hol hb3 hof hoc HB1 hmk
  have hs3 : w1.heap.size + 7 ≤ w3.heap.size := HS.out.size
  have hs0 : w.heap.size + 2 ≤ w1.heap.size := HS.out.lt
  clear hsz0 hsz1
  generalize hs6 : w1.heap.size + 1 + 1 + 1 + 1 + 1 + 1 = s6
  generalize hs2 : w1.heap.size + 1 + 1 = s2
  have E6 : Hid (w1.heap.size + 6 = s6) := hs6
  have E2 : Hid (w1.heap.size + 2 = s2) := hs2
  clear hs6 hs2
  generalize w1.heap.size = s at *
  clear w1
  go_wp2_with fail
  go_loopw [10, 11] (fun sl kb wr => ∃ (k kbn lL : Nat) (left lv : List Int) (whys : List Why) (oL : Option Addr) (cL : Nat) (oW : Option Addr) (lW cW : Nat) (f : Nat),
     sl = .slice oL lL cL ∧ kb = .pointer (some ⟨kbn, 0, none⟩) ∧ Hid (ExS w wr s N on ln cn os ls cs or lr cr om lm cm oa len cap m lv oW lW cW whys) ∧ Hid (OwnI wr (s + 7) oL lL cL left) ∧
     wr.cell? ⟨kbn, 0, none⟩ = some (.int .i64 k) ∧ wr.frozen? ⟨kbn, 0, none⟩ = false ∧ s + 7 ≤ kbn ∧ Hid (∀ g, (Value.slice oL lL cL).ownBlock = some g → g < kbn) ∧ Hid (∀ g, (Value.slice oW lW cW).ownBlock = some g → g < kbn) ∧
     1 ≤ k ∧ k + lL ≤ m.length + 1 ∧ lW + lL ≤ m.length ∧ Hid (∀ x ∈ left, 1 ≤ x ∧ x ≤ N) ∧ lL < f ∧ Hid (explainE ⟨N, names, shown, rules, mins⟩ m = exGo m rules f k left lv whys)) (fun sl _ _ => sliceLen sl)
  case atStart =>
    refine ⟨1, w3.heap.size, len, m, _, [], ol, cl, none, 0, 0, m.length + 1, rfl, rfl, HS.out.below_ (by (repeat (first | with_reducible exact Below.refl _ _ | with_reducible refine below_drewN_of ?_ _ | with_reducible refine below_alloc_of ?_ _ | with_reducible refine below_set_of ?_ _ _ _ (by simp) | with_reducible assumption | exact ⟨rfl, rfl, rfl, Nat.le_refl _, fun _ _ => rfl⟩))), HL.out.below (by (repeat (first | with_reducible exact Below.refl _ _ | with_reducible refine below_drewN_of ?_ _ | with_reducible refine below_alloc_of ?_ _ | with_reducible refine below_set_of ?_ _ _ _ (by simp) | with_reducible assumption | exact ⟨rfl, rfl, rfl, Nat.le_refl _, fun _ _ => rfl⟩))), by simp, by simp, hs3, fun g hg => (HL.out.1.lt g hg).2, (fun g hg => by simp [Value.ownBlock] at hg : ∀ g, (Value.slice none 0 0).ownBlock = some g → g < w3.heap.size), by omega, by omega, by omega, hmi.out, by omega, rfl⟩
  case round =>
    obtain ⟨k, kbn, lL, left, lv, whys, oL, cL, oW, lW, cW, f, rfl, rfl, HSr, HLr, hkb, hkf, hkn, hLk, hWk, hk1, hkL, hWL, hleft, hf, hgo⟩ := hrel
    clear HS HL
    obtain ⟨W, hW⟩ : ∃ W, W = wr := ⟨_, rfl⟩
    subst hW
    have hP : ∀ j, W.cell? ⟨w.heap.size, j, none⟩ = (#[.int .i64 N, .slice on ln cn, .slice os ls cs, .slice or lr cr, .slice om lm cm] : Array Value)[j]? := (cells_of_heap HSr.out.prog).1
    have h2 : W.cell? ⟨s2, 0, none⟩ = some (.slice (some ⟨s + 1, 0, none⟩) (N + 1) (N + 1)) := by rw [← E2.out]; exact ((cells_of_heap HSr.out.hdr).1 0).trans rfl
    have h6 : W.cell? ⟨s6, 0, none⟩ = some (.func (.func 106) #[] #[.pointer (some ⟨s + 5, 0, none⟩), .pointer (some ⟨s + 4, 0, none⟩)]) := by rw [← E6.out]; exact HSr.out.drv
    have hsr := HSr.out.size
    have hLlen : left.length = lL := HLr.out.2.1
    clear hs3
    go_wp2_with fail
    clear hP h2 h6
    go_loopw [12, 38] (fun nw i wq => ∃ (j lN : Nat) (oN : Option Addr) (cN : Nat) (now : List Why), nw = .slice oN lN cN ∧ i = .int .i64 j ∧ j ≤ lL ∧ Hid (Below W.heap.size W wq) ∧ Hid (OwnW wq W.heap.size oN lN cN now) ∧ lN ≤ j ∧
      Hid (now = nowOf m lv rules k (left.take j))) (fun _ i _ => lL - (intOf i).toNat)
    case atStart => exact ⟨0, 0, none, 0, [], rfl, rfl, Nat.zero_le _, Below.refl _ _, OwnW.nil_ _ _, Nat.le_refl _, rfl⟩
    case round =>
      obtain ⟨j, lN, oN, cN, now, rfl, rfl, hj, HB, HN, hlN, hnow⟩ := hrel
      have HSq := Lib.hid (HSr.out.below_ HB.out)
      have HLq := Lib.hid (HLr.out.below HB.out)
      have hkb2 : wr.cell? ⟨kbn, 0, none⟩ = some (.int .i64 k) := (HB.out.cell (p := ⟨kbn, 0, none⟩) (cell_lt hkb)).trans hkb
      clear hkb hkf
      have hbs := HB.out.size
      by_cases hlt : j < lL
      · obtain ⟨b, off, x, rfl, hcx, hxa, hxb, hd, hg⟩ := HLq.out.ints.at_ hlt
        have hP : ∀ j, wr.cell? ⟨w.heap.size, j, none⟩ = (#[.int .i64 N, .slice on ln cn, .slice os ls cs, .slice or lr cr, .slice om lm cm] : Array Value)[j]? := (cells_of_heap HSq.out.prog).1
        have h6 : wr.cell? ⟨s6, 0, none⟩ = some (.func (.func 106) #[] #[.pointer (some ⟨s + 5, 0, none⟩), .pointer (some ⟨s + 4, 0, none⟩)]) := by rw [← E6.out]; exact HSq.out.drv
        have hpl := HSq.out.lt
        have hps : w.heap.size < wr.heap.size := by omega
        go_wp2_with fail
        have hgl : left[j]? = some x := hg.out
        have HA := Lib.hid (below_alloc wr (.cells #[.int .i64 x] 3))
        refine (indexFuncR_any _ _ _ _ rules _ (fun r => derivesB m lv r x (k - 1)) (fun r => OkBody r ∧ ∀ x ∈ r.head, I64 x) (h.rules.below (HSq.out.below_ HA.out).below) ⟨53, _, rfl, Tryz.call53, fun W' hW' r oh lh ch ob lb' cb ow' lw' cw' i1 i2 i3 i4 hD => ?_⟩ hRD.out).mono ?_
        · have HSx := (HSq.out.below_ HA.out).below_ hW'
          exact ex1_any W' r oh lh ch ob lb' cb ow' lw' cw' s6 wr.heap.size kbn x k (s + 5) (s + 4) (s + 3) m lv _ _ _ _ _ _ i1 i2 i3 i4 hD.1 hD.2 (HSx.env (by omega) (hm) hms.out hmi.out) (by rw [← E6.out]; exact HSx.drv) ((hW'.cell (p := ⟨wr.heap.size, 0, none⟩) (by simp)).trans (by simp))
            (((below_trans_of HA.out hW').cell (p := ⟨kbn, 0, none⟩) (cell_lt hkb2)).trans hkb2) (by omega) (by omega)
        rintro e w4 ⟨rfl, hb4⟩
        have hfb := firstI_bounds (fun r => derivesB m lv r x (k - 1)) rules 0 (by omega)
        have hwy : Hid (whyOf m lv rules k x = if 0 ≤ firstI (fun r => derivesB m lv r x (k - 1)) rules 0 then some ⟨x, firstI (fun r => derivesB m lv r x (k - 1)) rules 0, k⟩ else none) := rfl
        have hrl := h.rules.hlen
        have hrm := h.rules.hmax
        simp only at hrl
        generalize firstI (fun r => derivesB m lv r x (k - 1)) rules 0 = fi at hfb hwy ⊢
        have HB4 := Lib.hid (below_trans_of HA.out hb4)
        have hx4 : w4.cell? ⟨wr.heap.size, 0, none⟩ = some (.int .i64 x) := (hb4.cell (p := ⟨wr.heap.size, 0, none⟩) (by simp)).trans (by simp)
        have hk4 : w4.cell? ⟨kbn, 0, none⟩ = some (.int .i64 k) := (HB4.out.cell (p := ⟨kbn, 0, none⟩) (cell_lt hkb2)).trans hkb2
        have HN4 := Lib.hid (HN.out.below HB4.out)
        clear hb4 hP h6
        have hs4 := HB4.out.size
        have htk : Hid (nowOf m lv rules k (left.take (j + 1)) = now ++ (whyOf m lv rules k x).toList) := by rw [Hid, hnow.out]; exact nowOf_snoc m lv rules k left j x hgl
        clear hnow
        by_cases hfi : 0 ≤ fi
        · go_wp2_with (at_builtin; refine wpList_append_why rfl _ _ rfl W.heap.size _ _ _ now ⟨x, fi, k⟩ rfl (HN4.out.below (by (repeat (first | with_reducible exact Below.refl _ _ | with_reducible refine below_drewN_of ?_ _ | with_reducible refine below_alloc_of ?_ _ | with_reducible refine below_set_of ?_ _ _ _ (by simp) | with_reducible assumption | exact ⟨rfl, rfl, rfl, Nat.le_refl _, fun _ _ => rfl⟩)))) ⟨w4.heap.size, 0, none⟩ 1 rfl ?_ ?_ (by omega) (by simp; omega) ?_)
          · intro j' u hj'
            match j', hj' with
            | 0, hj' => simp [cellsW] at hj'; subst hj'; simp [Addr.add]
            | 1, hj' => simp [cellsW] at hj'; subst hj'; simp [Addr.add]
            | 2, hj' => simp [cellsW] at hj'; subst hj'; simp [Addr.add]
          · exact ⟨⟨hxa, hxb⟩, (⟨by omega, by omega⟩ : I64 fi), (⟨by omega, by omega⟩ : I64 k)⟩
          · intro oa' cap' w5 hown5 hg5
            have HN5 := Lib.hid hown5
            have HB5 : Hid (Below W.heap.size W w5) := (below_alloc_of (below_trans_of HB.out HB4.out) _).grown hg5 (by simp; omega) (fun g hg => (HN4.out.1.lt g hg).1)
            clear hown5 hg5
            go_wp2_with fail
            go_roundw
            case rel => exact ⟨j + 1, lN + 1, oa', cap', now ++ [⟨x, fi, k⟩], rfl, by go_num, by omega, HB5.out, HN5, by omega, by rw [Hid, htk.out, hwy.out, if_pos hfi]; rfl⟩
            case measure => simp [intOf]; omega
        · go_wp2_with fail
          go_roundw
          case rel => exact ⟨j + 1, lN, oN, cN, now, rfl, by go_num, by omega, below_trans_of HB.out HB4.out, HN4.out, by omega, by rw [Hid, htk.out, hwy.out, if_neg (by omega)]; simp⟩
          case measure => simp [intOf]; omega
      · obtain rfl : j = lL := by omega
        rw [List.take_of_length_le (by omega)] at hnow
        have hout : ∀ j, wr.cell? ⟨s, j, none⟩ = (#[.slice oW lW cW, .slice none 0 0] : Array Value)[j]? := (cells_of_heap HSq.out.outb).1
        have houf : ∀ j, wr.frozen? ⟨s, j, none⟩ = false := (cells_of_heap HSq.out.outb).2
        have hres : ∀ j, wr.cell? ⟨w.heap.size + 1, j, none⟩ = (#[.slice none 0 0, .slice none 0 0] : Array Value)[j]? := (cells_of_heap HSq.out.res).1
        have href : ∀ j, wr.frozen? ⟨w.heap.size + 1, j, none⟩ = false := (cells_of_heap HSq.out.res).2
        have hpl := HSq.out.lt
        have hN4len := HN.out.2.1
        by_cases h0 : lN = 0
        · subst h0
          have hne1 : w.heap.size + 1 ≠ s := by omega
          go_wp2_with fail
          refine bodyPost_ret (v := .tuple #[.agg #[.slice oW lW cW, .slice oL j cL], .int .i64 0]) ?_ rfl ?_
          · simp [results, Tryz.results14, go_sem, hres]
          · have g1 := grown_set wr s 1 (.slice oL j cL)
            have g2 := grown_set (wr.setCell ⟨s, 1, none⟩ (.slice oL j cL)) (w.heap.size + 1) 0 (.slice oW lW cW)
            have g3 := grown_set ((wr.setCell ⟨s, 1, none⟩ (.slice oL j cL)).setCell ⟨w.heap.size + 1, 0, none⟩ (.slice oW lW cW)) (w.heap.size + 1) 1 (.slice oL j cL)
            have hi := HSq.out.own
            have hli := HLq.out
            have n1 : ∀ (v : Value) (e : TypeId) (sz n : Nat) (xs : List Value) (W' : World) (t : Nat), W'.ownsRow (s + 7) e sz v n xs → t < s + 7 → v.ownBlock = none ∨ v.ownBlock ≠ some t := fun v e sz n xs W' t ho ht => .inr fun he => by have := (ho.lt t he).1; omega
            have hi1 := hi.grown g1 (n1 _ _ _ _ _ _ _ hi.1 (by omega))
            have hi2 := hi1.grown g2 (n1 _ _ _ _ _ _ _ hi1.1 (by omega))
            have hi3 := hi2.grown g3 (n1 _ _ _ _ _ _ _ hi2.1 (by omega))
            have hl1 := hli.grown g1 (n1 _ _ _ _ _ _ _ hli.1 (by omega))
            have hl2 := hl1.grown g2 (n1 _ _ _ _ _ _ _ hl1.1 (by omega))
            have hl3 := hl2.grown g3 (n1 _ _ _ _ _ _ _ hl2.1 (by omega))
            rw [hgo.out, exGo_stop (by omega) hnow.out hN4len]
            exact ⟨oW, lW, cW, oL, j, cL, rfl, ⟨hi3.whys, hl3.ints⟩, below_set_of (below_set_of (below_set_of HSq.out.below _ _ _ (by show _ ≤ s; omega)) _ _ _ (by show _ ≤ w.heap.size + 1; omega)) _ _ _ (by show _ ≤ w.heap.size + 1; omega)⟩
        · clear hres href hout houf
          have h2 : wr.cell? ⟨s2, 0, none⟩ = some (.slice (some ⟨s + 1, 0, none⟩) (N + 1) (N + 1)) := by rw [← E2.out]; exact ((cells_of_heap HSq.out.hdr).1 0).trans rfl
          go_wp2_with fail
          clear h2
          obtain ⟨V, hV⟩ : ∃ V, V = wr := ⟨_, rfl⟩
          subst hV
          go_loopw [64] (fun i wz => ∃ t : Nat, t ≤ lN ∧ i = .int .i64 t ∧ Hid (V.grownBy wz (some (s + 1))) ∧ Hid (wz.heap[s + 1]? = some (.cells (levCells (setLev lv (now.take t) k)) 3 (0, 0)))) (fun i _ => lN - (intOf i).toNat)
          case atStart => exact ⟨0, Nat.zero_le _, rfl, ⟨rfl, rfl, rfl, Nat.le_refl _, fun _ _ _ => rfl⟩, HSq.out.levb⟩
          case round =>
            obtain ⟨t, ht, rfl, HG, HLv⟩ := hrel
            have HSz := Lib.hid (HSq.out.levels HG.out HLv.out (by rw [setLev_length]; exact HSq.out.levn) (fun x hx => by rcases setLev_mem _ _ _ x hx with rfl | h; exact ⟨by omega, by omega⟩; exact HSq.out.lev64 x h))
            have hapN : Hid ((Value.slice oN lN cN).ownBlock ≠ some (s + 1)) := own_ne_block HN.out.1 HSq.out.levb (by decide)
            have HNz := Lib.hid (HN.out.grown HG.out (.inr hapN.out))
            have hkz : wr.cell? ⟨kbn, 0, none⟩ = some (.int .i64 k) := (World.cell?_of_block (a := ⟨kbn, 0, none⟩) (HG.out.block kbn (cell_lt hkb2) (fun e => by injection e; omega))).trans hkb2
            have hgs := HG.out.size
            by_cases hlt : t < lN
            · obtain ⟨b, off, y, rfl, hb, c0, c1, c2, hy1, hy2, hy3, hd, hg⟩ := HNz.out.whys.at_ hlt
              have hmem : y ∈ nowOf m lv rules k left := by rw [← hnow.out]; exact List.mem_of_getElem? hg.out
              obtain ⟨a, ha, hya⟩ := List.mem_filterMap.1 hmem
              have hya := whyOf_atom hya
              have hyl := hleft.out a ha
              rw [← hya.1] at hyl
              obtain ⟨⟨ya, yr, yl⟩, rfl⟩ : ∃ y' : Why, y' = y := ⟨y, rfl⟩
              simp only at hyl hy1 hy2 hy3 c0 c1 c2
              obtain ⟨yn, rfl⟩ := Int.eq_ofNat_of_zero_le (show 0 ≤ ya by omega)
              clear hya ha hmem
              have h2 : wr.cell? ⟨s2, 0, none⟩ = some (.slice (some ⟨s + 1, 0, none⟩) (N + 1) (N + 1)) := by rw [← E2.out]; exact ((cells_of_heap HSz.out.hdr).1 0).trans rfl
              have hlf : ∀ o, wr.frozen? ⟨s + 1, o, none⟩ = false := (cells_of_heap HLv.out).2
              have hlc : ∃ z, wr.cell? ⟨s + 1, yn, none⟩ = some z := by
                rw [(cells_of_heap HLv.out).1]
                exact ⟨_, Array.getElem?_eq_getElem (by simp only [levCells, List.size_toArray, List.length_map, setLev_length, HSq.out.levn]; omega)⟩
              obtain ⟨z, hlc⟩ := hlc
              have hs2 : s2 < wr.heap.size := cell_lt h2
              have hs1 : s + 1 < wr.heap.size := cell_lt hlc
              have hkl : kbn < wr.heap.size := cell_lt hkz
              go_wp2_with fail
              go_roundw
              case rel =>
                refine ⟨t + 1, by omega, by go_num, grown_trans (grown_trans HG.out (grown_set _ _ _ _)) (World.grownBy_alloc _ _ _), ?_⟩
                have e : now.take (t + 1) = now.take t ++ [⟨yn, yr, yl⟩] := by rw [List.take_add_one, hg.out]; rfl
                rw [e, setLev_snoc]
                exact lev_store _ HLv.out hs1
              case measure => simp [intOf]; omega
            · obtain rfl : t = lN := by omega
              rw [List.take_of_length_le (by omega)] at HLv HSz
              have hout : ∀ j, wr.cell? ⟨s, j, none⟩ = (#[.slice oW lW cW, .slice none 0 0] : Array Value)[j]? := (cells_of_heap HSz.out.outb).1
              have HLz := Lib.hid (HLq.out.grown HG.out (.inr fun e => by have := (HLq.out.1.lt _ e).1; omega))
              have hsz7 := HSz.out.size
              obtain ⟨g, rfl⟩ : ∃ g, oL = some ⟨g, 0, none⟩ := by
                rcases HLz.out.1.2 with ⟨_, h0'⟩ | ⟨g, cap', cur, he, _⟩
                · omega
                · exact ⟨g, by injection he⟩
              go_wp2_with (at_builtin; refine wpList_append_whys rfl _ _ rfl (s + 7) W.heap.size _ _ _ _ _ _ whys now rfl HSz.out.own rfl HNz.out (by omega) (by omega) (by omega) ?_)
              intro oa' cap' w5 hown5 hg5
              have hob5 : w5.heap[s]? = some (.cells #[.slice oW lW cW, .slice none 0 0] 30 (0, 0)) := (hg5.block s (by omega) (fun e => by have := (HSz.out.own.1.lt s e.symm).1; omega)).trans HSz.out.outb
              have hout5 : ∀ j, w5.cell? ⟨s, j, none⟩ = (#[.slice oW lW cW, .slice none 0 0] : Array Value)[j]? := (cells_of_heap hob5).1
              have houf5 : ∀ j, w5.frozen? ⟨s, j, none⟩ = false := (cells_of_heap hob5).2
              have HS5 := Lib.hid (HSz.out.app hg5 hown5)
              have HL5 := Lib.hid ((HLz.out.grown hg5 (own_apart HLz.out.1 HSz.out.own.1 (by decide))).grown (grown_set w5 s 0 (.slice oa' (lW + t) cap')) (.inr fun e => by have := (HLz.out.1.lt _ e).1; omega))
              have hk5 : w5.cell? ⟨kbn, 0, none⟩ = some (.int .i64 k) := (World.cell?_of_block (a := ⟨kbn, 0, none⟩) (hg5.block kbn (cell_lt hkz) (fun e => by have := hWk.out kbn e.symm; omega))).trans hkz
              have hs5 := hg5.size
              clear hown5 hg5 hob5 hout
              go_wp2_with fail
              have hgs7 : s + 7 ≤ g := (HL5.out.1.lt g rfl).1
              have HSW : ∀ W', (w5.setCell ⟨s, 0, none⟩ (.slice oa' (lW + t) cap')).grownBy W' (some g) → ExS w W' s N on ln cn os ls cs or lr cr om lm cm oa len cap m (setLev lv now k) oa' (lW + t) cap' (whys ++ now) := fun W' hW =>
                HS5.out.grown (some g) hW (fun g' e => by injection e; omega) (own_apart HS5.out.own.1 HL5.out.1 (by decide))
              refine (delete_own _ (s + 7) g j cL left HL5.out.1 (N + 1) (by omega) (fun x hx => by have := hleft.out x hx; omega) 55 _ Tryz.call55 (fun x => decide (0 < (setLev lv now k).getD x.toNat 0)) (fun W' hW x hx0 hx1 => ?_)).mono ?_
              · have := HSW W' hW
                exact ex2_any W' s2 (some ⟨s + 1, 0, none⟩) (N + 1) (N + 1) (setLev lv now k) x (by rw [← E2.out]; exact ((cells_of_heap this.hdr).1 0).trans rfl) (this.ints (by omega)) hx0 hx1
              rintro e w6 ⟨rfl, hown6, hg6⟩
              have HS6 := Lib.hid (HSW w6 hg6)
              have hcnt := round_counts m lv rules k left (by omega) (fun a ha => by have := hleft.out a ha; have := HSq.out.levn; omega)
              rw [← hnow.out] at hcnt
              have Hl : Hid ((left.filter fun x => !decide (0 < (setLev lv now k).getD x.toNat 0)) = left.filter (stay (setLev lv now k))) := rfl
              rw [Hl.out] at hown6 ⊢
              have Hl6 : Hid (∀ x ∈ left.filter (stay (setLev lv now k)), 1 ≤ x ∧ x ≤ N) := fun x hx => hleft.out x (List.mem_filter.1 hx).1
              have HL6 : Hid (OwnI w6 (s + 7) (some ⟨g, 0, none⟩) (left.filter (stay (setLev lv now k))).length cL (left.filter (stay (setLev lv now k)))) := ⟨hown6, rfl, fun x hx => by have := Hl6.out x hx; exact ⟨by omega, by omega⟩, by omega⟩
              have Hgo : Hid (explainE ⟨N, names, shown, rules, mins⟩ m = exGo m rules (f - 1) (k + 1 : Nat) (left.filter (stay (setLev lv now k))) (setLev lv now k) (whys ++ now)) := by
                rw [Hid, hgo.out, exGo_go (by omega) hnow.out (by omega)]; rfl
              clear Hl hown6
              generalize left.filter (stay (setLev lv now k)) = left' at *
              generalize hll : left'.length = lL' at *
              have hsk : (w5.setCell ⟨s, 0, none⟩ (.slice oa' (lW + t) cap')).cell? ⟨kbn, 0, none⟩ = some (.int .i64 k) := (World.cell?_of_block (a := ⟨kbn, 0, none⟩) ((grown_set w5 s 0 (.slice oa' (lW + t) cap')).block kbn (cell_lt hk5) (fun e => by injection e; omega))).trans hk5
              have hk6 : w6.cell? ⟨kbn, 0, none⟩ = some (.int .i64 k) := (World.cell?_of_block (a := ⟨kbn, 0, none⟩) (hg6.block kbn (cell_lt hsk) (fun e => by injection e with e; have := hLk.out g rfl; omega))).trans hsk
              have hkl6 : kbn < w6.heap.size := cell_lt hk6
              have hs6 := HS6.out.size
              clear hg6 hsk hk5 hkz hkb2 hout5 houf5
              go_wp2_with fail
              go_roundw
              case rel =>
                refine ⟨k + 1, w6.heap.size, lL', left', _, _, _, cL, oa', lW + t, cap', f - 1, rfl, rfl, HS6.out.below_ (by (repeat (first | with_reducible exact Below.refl _ _ | with_reducible refine below_drewN_of ?_ _ | with_reducible refine below_alloc_of ?_ _ | with_reducible refine below_set_of ?_ _ _ _ (by simp) | with_reducible assumption | exact ⟨rfl, rfl, rfl, Nat.le_refl _, fun _ _ => rfl⟩))), HL6.out.below (by (repeat (first | with_reducible exact Below.refl _ _ | with_reducible refine below_drewN_of ?_ _ | with_reducible refine below_alloc_of ?_ _ | with_reducible refine below_set_of ?_ _ _ _ (by simp) | with_reducible assumption | exact ⟨rfl, rfl, rfl, Nat.le_refl _, fun _ _ => rfl⟩))), by simp, by simp, by omega, fun g' hg' => (HL6.out.1.lt g' hg').2, fun g' hg' => (HS6.out.own.1.lt g' hg').2, by omega, by omega, by omega, Hl6.out, by omega, Hgo.out⟩
              case measure => simp [sliceLen]; omega
theorem explain_any (w : World) (p : GProg) (n : Int) (on : Option Addr) (ln cn : Nat) (os : Option Addr) (ls cs : Nat) (or : Option Addr) (lr cr : Nat) (om : Option Addr) (lm cm : Nat)
    (oa : Option Addr) (len cap : Nat) (m : List Int) (h : IsProg w n on ln os ls or lr om lm p) (hm : IsInts w oa len m) :
    Calls Tryz.prog 14 #[.agg #[.int .i64 n, .slice on ln cn, .slice os ls cs, .slice or lr cr, .slice om lm cm], .slice oa len cap] w (RetExpl w (if explainErr p m = 0 then explainE p m else ⟨[], []⟩) (explainErr p m)) := by
  by_cases he : explainErr p m = 0
  · rw [if_pos he, he]
    obtain ⟨pn, names, shown, rules, mins⟩ := p
    have hn := h.hn
    have h0 := (explain_ok he).1
    simp only at hn h0
    subst hn
    obtain ⟨N, rfl⟩ := Int.eq_ofNat_of_zero_le h0
    exact explain_good w N names shown rules mins on ln cn os ls cs or lr cr om lm cm oa len cap m h hm he
  · rw [if_neg he]
    exact explain_bad w p n on ln cn os ls cs or lr cr om lm cm oa len cap m h hm he
end Go.Proofs.YtaemfafnmhndiaaGreatDoor
namespace Go.Proofs.YtaemfafnmhndiaaGreatDoor
open Go.RowKit Go.Maps Go.WideMaps Go.Sort

/-- A function value that answers, at each element of an explanation, what `p` says, and leaves old memory alone. -/
def FnWhy (P : Program) (D : Why → Prop) (w : World) (fv : Value) (p : Why → Bool) : Prop :=
  ∃ (g : Nat) (lb : Array Value), fv = .func (.func g) #[] lb ∧ (∀ args w, (callFunc g args).run P w = .ok (.enter g args) w) ∧
    ∀ W, Below w.heap.size w W → ∀ (y : Why), OkWhy y → D y →
      Calls P g (#[.agg #[.int .i64 y.atom, .int .i64 y.rule, .int .i64 y.level]] ++ lb) W fun e w' => e = .returned (.bool (p y)) ∧ Below W.heap.size W w'

set_option maxHeartbeats 1000000 in
theorem indexFuncW_any (w : World) (oa : Option Addr) (len cap : Nat) (l : List Why) (fv : Value) (p : Why → Bool) (D : Why → Prop) (h : IsWhys w oa len l) (hf : FnWhy Tryz.prog D w fv p) (hD : ∀ r ∈ l, D r) :
    Calls Tryz.prog 149 #[.slice oa len cap, fv] w fun e w' => e = .returned (.int .i64 (firstI p l 0)) ∧ Below w.heap.size w w' := by
  have hm := h.hmax
  have hl' := Lib.hid h.hlen
  obtain ⟨g, lb, rfl, eg, hc⟩ := hf
  have Hc := Lib.hid hc
  clear hc
  go_enter Tryz.func149, Tryz.ntmps149
  go_wp2
  go_loopw [5, 8] (fun _ i wr => ∃ k : Nat, Hid (Below w.heap.size w wr) ∧ k ≤ len ∧ i = .int .i64 k ∧ Hid (firstI p l 0 = firstI p (l.drop k) k)) (fun _ i _ => len - (intOf i).toNat)
  case atStart => exact ⟨0, Below.refl _ _, Nat.zero_le _, rfl, rfl⟩
  case round =>
    obtain ⟨k, HB, hk, rfl, hno⟩ := hrel
    by_cases hlt : k < len
    · obtain ⟨b, off, y, rfl, hb, c0, c1, c2, i1, i2, i3, hd, hg⟩ := (h.below HB.out).at_ hlt
      have Hgo : Hid (firstI p l 0 = firstI p (y :: l.drop (k + 1)) k) := by rw [Hid, hno.out, hd.out]
      clear hno
      go_wp2_with (go_at_fn g; refine (Hc.out _ HB.out y ⟨i1, i2, i3⟩ (hD y (List.mem_of_getElem? hg.out))).mono ?_; rintro e w1 ⟨rfl, hb1⟩)
      · go_ret
        exact ⟨ret_int (by rw [Hgo.out]; clear Hgo; grind [firstI]), below_trans_of HB.out hb1⟩
      · go_roundw
        case rel => exact ⟨k + 1, below_trans_of HB.out hb1, by omega, by go_num, by rw [Hid, Hgo.out]; clear Hgo; grind [firstI]⟩
        case measure => simp [intOf]; omega
    · go_wp2
      go_ret
      exact ⟨ret_int (by rw [hno.out, List.drop_eq_nil_of_le (by rw [hl'.out]; omega)]; rfl), HB.out⟩

set_option maxHeartbeats 1000000 in
theorem containsFuncW_any (w : World) (oa : Option Addr) (len cap : Nat) (l : List Why) (fv : Value) (p : Why → Bool) (D : Why → Prop) (h : IsWhys w oa len l) (hf : FnWhy Tryz.prog D w fv p) (hD : ∀ r ∈ l, D r) :
    Calls Tryz.prog 112 #[.slice oa len cap, fv] w fun e w' => e = .returned (.bool (l.any p)) ∧ Below w.heap.size w w' := by
  have hge := Lib.hid (firstI_ge p l 0 (Int.le_refl 0))
  go_enter Tryz.func112, Tryz.ntmps112
  go_wp2_with (go_at_call 149; refine (indexFuncW_any _ _ _ _ _ _ _ _ h hf hD).mono ?_; rintro e w1 ⟨rfl, hb1⟩)
  go_ret
  exact ⟨ret_bool hge.out, hb1⟩

instance : Inhabited GRule := ⟨⟨false, [], false, 0, [], []⟩⟩
def derW (rules : List GRule) (m lv : List Int) (y : Why) : Bool := derivesB m lv (rules.getD y.rule.toNat default) y.atom (y.level - 1)

set_option maxRecDepth 100000 in
set_option maxHeartbeats 2000000 in
theorem valid1_any (w : World) (y : Why) (Bd Bp : Nat) (n : Int) (on : Option Addr) (ln cn : Nat) (os : Option Addr) (ls cs : Nat) (or : Option Addr) (lr cr : Nat) (om : Option Addr) (lm cm : Nat)
    (Bin Bl Bm : Nat) (m lv : List Int) (oa : Option Addr) (la ca : Nat) (ol : Option Addr) (ll cl : Nat) (rules : List GRule)
    (hd : w.cell? ⟨Bd, 0, none⟩ = some (.func (.func 106) #[] #[.pointer (some ⟨Bin, 0, none⟩), .pointer (some ⟨Bl, 0, none⟩)]))
    (hp : ∀ j, w.cell? ⟨Bp, j, none⟩ = (#[.int .i64 n, .slice on ln cn, .slice os ls cs, .slice or lr cr, .slice om lm cm] : Array Value)[j]?)
    (hr : IsRules w or lr rules) (hok : ∀ r ∈ rules, OkBody r ∧ ∀ x ∈ r.head, I64 x) (hE : DerEnv w Bin Bl Bm m lv oa la ca ol ll cl)
    (hy0 : 0 ≤ y.rule) (hy1 : y.rule < lr) (hy2 : 1 ≤ y.level) (hy3 : y.level ≤ 9223372036854775807) :
    Calls Tryz.prog 113 #[.agg #[.int .i64 y.atom, .int .i64 y.rule, .int .i64 y.level], .pointer (some ⟨Bd, 0, none⟩), .pointer (some ⟨Bp, 0, none⟩)] w fun e w' => e = .returned (.bool (!derW rules m lv y)) ∧ Below w.heap.size w w' := by
  obtain ⟨ya, yr, yl⟩ := y
  simp only at hy0 hy1 hy2 hy3
  obtain ⟨rn, rfl⟩ := Int.eq_ofNat_of_zero_le hy0
  have hlr : rn < lr := by omega
  have hmx := hr.hmax
  have hBd := cell_lt hd
  have hBp : Bp < w.heap.size := cell_lt ((hp 0).trans rfl)
  obtain ⟨b, off, r, oh, lh, ch, ob, lb, cb, ow, lw, cw, rfl, hb, c0, c1, c2, c3, c4, c5, i1, i2, i3, i4, hdr, hg⟩ := hr.at_ hlr
  have hrm := List.mem_of_getElem? hg.out
  have Hok := Lib.hid (hok r hrm)
  have Hsp : Hid (derW rules m lv ⟨ya, rn, yl⟩ = derivesB m lv r ya (yl - 1)) := by simp [Hid, derW, List.getD, hg.out]
  have e1 : (0:Int) ≤ rn := by omega
  have e2 : (rn:Int) < lr := by omega
  have HE := Lib.hid hE
  clear hE hok
  go_enter Tryz.func113, Tryz.ntmps113
  go_wp2_with fail
  have A0 : ∀ x o, (later (w.alloc (.cells #[.int .i64 ya, .int .i64 rn, .int .i64 yl] 49)) x).cell? ⟨w.heap.size, o, none⟩ = (#[.int .i64 ya, .int .i64 rn, .int .i64 yl] : Array Value)[o]? := laterA (by simp) (fun o => by simp)
  have A1 : ∀ x o, (later (w.alloc (.cells #[.int .i64 ya, .int .i64 rn, .int .i64 yl] 49)) x).cell? ⟨Bp, o, none⟩ = (#[.int .i64 n, .slice on ln cn, .slice os ls cs, .slice (some ⟨b, off, none⟩) lr cr, .slice om lm cm] : Array Value)[o]? := laterA (by simp; omega) (fun o => by rw [World.cell?_alloc_lt _ _ _ (by exact hBp)]; exact hp o)
  have A2 := laterC (w := w.alloc (.cells #[.int .i64 ya, .int .i64 rn, .int .i64 yl] 49)) (by rw [World.cell?_alloc_lt _ _ _ (by exact hBd)]; exact hd)
  have A3 := laterC (w := w.alloc (.cells #[.int .i64 ya, .int .i64 rn, .int .i64 yl] 49)) (by rw [World.cell?_alloc_lt _ _ _ (by exact hb)]; exact c0)
  have A4 := laterC (w := w.alloc (.cells #[.int .i64 ya, .int .i64 rn, .int .i64 yl] 49)) (by rw [World.cell?_alloc_lt _ _ _ (by exact hb)]; exact c1)
  have A5 := laterC (w := w.alloc (.cells #[.int .i64 ya, .int .i64 rn, .int .i64 yl] 49)) (by rw [World.cell?_alloc_lt _ _ _ (by exact hb)]; exact c2)
  have A6 := laterC (w := w.alloc (.cells #[.int .i64 ya, .int .i64 rn, .int .i64 yl] 49)) (by rw [World.cell?_alloc_lt _ _ _ (by exact hb)]; exact c3)
  have A7 := laterC (w := w.alloc (.cells #[.int .i64 ya, .int .i64 rn, .int .i64 yl] 49)) (by rw [World.cell?_alloc_lt _ _ _ (by exact hb)]; exact c4)
  have A8 := laterC (w := w.alloc (.cells #[.int .i64 ya, .int .i64 rn, .int .i64 yl] 49)) (by rw [World.cell?_alloc_lt _ _ _ (by exact hb)]; exact c5)
  have e7 : IntKind.i64.wrap (yl - 1) = yl - 1 := by rw [IntKind.wrap_i64]; omega
  clear hd hp c0 c1 c2 c3 c4 c5
  (refine wp_region_later (by kernel_rfl) (by kernel_rfl) ?_; (repeat (any_goals (first | go_big_quiet_step ((go_at_call 106; exact call_later (derives_any _ r _ _ _ _ _ _ _ _ _ _ _ _ _ _ _ _ _ _ _ _ _ _ ((i1.alloc _).below (later_below _ _)) ((i2.alloc _).below (later_below _ _)) ((i3.alloc _).below (later_below _ _)) i4 Hok.out.1 Hok.out.2 ((HE.out.below (below_alloc _ _)).below (later_below _ _))))) | ((fail_if_success (refine split_guard (b := true) rfl rfl ?_ ?_)); (fail_if_success (refine split_guard (b := false) rfl rfl ?_ ?_)); (refine split_guard rfl rfl (fun hb => ?_) (fun hb => ?_) <;> rw [hb]))))); all_goals (refine wpQuiet_nil ?_; intro wq hbq))
  go_wp2
  go_ret
  exact ⟨ret_bool (by rw [Hsp.out]), below_trans_of (below_alloc _ _) hbq⟩
end Go.Proofs.YtaemfafnmhndiaaGreatDoor
