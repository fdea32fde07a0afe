/- Part 7 of the proof: Check2, Check3, Support1, Support2, EqW, Block1, Block2, Block3. Conditions: those that each theorem names. -/
import Derived.Test.YtaemfafnmhndiaaGreatDoorPb6
import Derived.Laws.StructEq
import Derived.Test.YtaemfafnmhndiaaGreatDoorPb4
import Derived.Deep.RegionHeld3
import Derived.Test.YtaemfafnmhndiaaGreatDoorPb5
namespace Go.Proofs.YtaemfafnmhndiaaGreatDoor
open Go.RowKit Go.Maps Go.WideMaps Go.Sort

def badWhy (n lr : Int) (y : Why) : Bool := decide (y.atom < 1) || decide (n < y.atom) || decide (y.rule < 0) || decide (lr ≤ y.rule) || decide (y.level < 1)
def levWhys (lv : List Int) (l : List Why) : List Int := l.foldl (fun lv y => lv.set y.atom.toNat y.level) lv
def allAtoms (x : Expl) : List Int := (x.rest ++ x.whys.map (·.atom)).mergeSort fun a b => decide (a ≤ b)
def validB (p : GProg) (m : List Int) (x : Expl) : Bool :=
  !(x.whys.any (badWhy p.n p.rules.length)) && (allAtoms x == m && (sortedB (fun a b => decide (a ≤ b)) x.rest && (sortedB lexW x.whys && x.whys.all (derW p.rules m (levWhys (List.replicate (p.n.toNat + 1) 0) x.whys)))))
theorem levWhys_length : ∀ (l : List Why) (lv : List Int), (levWhys lv l).length = lv.length
  | [], _ => rfl
  | y :: l, lv => by show (levWhys (lv.set y.atom.toNat y.level) l).length = _; rw [levWhys_length l]; simp
theorem levWhys_snoc (lv : List Int) (l : List Why) (y : Why) : levWhys lv (l ++ [y]) = (levWhys lv l).set y.atom.toNat y.level := by simp [levWhys]

/-- What stands fast in valid's loop. -/
structure VaS (w wr : World) (N : Nat) (on : Option Addr) (ln cn : Nat) (os : Option Addr) (ls cs : Nat) (or : Option Addr) (lr cr : Nat) (om : Option Addr) (lm cm : Nat) (ow : Option Addr) (lw cw : Nat) (oe : Option Addr) (le ce : Nat) (lv : List Int) : Prop where
  below : Below w.heap.size w wr
  size : w.heap.size + 3 ≤ wr.heap.size
  prog : wr.heap[w.heap.size]? = some (.cells #[.int .i64 N, .slice on ln cn, .slice os ls cs, .slice or lr cr, .slice om lm cm] 27 (0, 0))
  expl : wr.heap[w.heap.size + 1]? = some (.cells #[.slice ow lw cw, .slice oe le ce] 30 (0, 0))
  levb : wr.heap[w.heap.size + 2]? = some (.cells (levCells lv) 3 (0, 0))
  levn : lv.length = N + 1
  lev64 : ∀ x ∈ lv, I64 x
section
variable {w wr wr' : World} {N : Nat} {on : Option Addr} {ln cn : Nat} {os : Option Addr} {ls cs : Nat} {or : Option Addr} {lr cr : Nat} {om : Option Addr} {lm cm : Nat} {ow : Option Addr} {lw cw : Nat} {oe : Option Addr} {le ce : Nat} {lv : List Int}
theorem VaS.grown (h : VaS w wr N on ln cn os ls cs or lr cr om lm cm ow lw cw oe le ce lv) (row : Option Nat) (hg : wr.grownBy wr' row) (hrow : ∀ g, row = some g → w.heap.size + 3 ≤ g) : VaS w wr' N on ln cn os ls cs or lr cr om lm cm ow lw cw oe le ce lv := by
  have hs := h.size
  have b : ∀ k, k < w.heap.size + 3 → wr'.heap[k]? = wr.heap[k]? := fun k hk => hg.block k (by omega) (fun e => by have := hrow k e.symm; omega)
  exact ⟨⟨hg.os.trans h.below.os, hg.tape.trans h.below.tape, hg.output.trans h.below.output, Nat.le_trans h.below.size hg.size, fun k hk => (b k (by omega)).trans (h.below.block k hk)⟩, Nat.le_trans hs hg.size,
    (b _ (by omega)).trans h.prog, (b _ (by omega)).trans h.expl, (b _ (by omega)).trans h.levb, h.levn, h.lev64⟩
theorem VaS.below_ (h : VaS w wr N on ln cn os ls cs or lr cr om lm cm ow lw cw oe le ce lv) (hb : Below wr.heap.size wr wr') : VaS w wr' N on ln cn os ls cs or lr cr om lm cm ow lw cw oe le ce lv :=
  h.grown none ⟨hb.os, hb.tape, hb.output, hb.size, fun k hk _ => hb.block k hk⟩ (by simp)
theorem VaS.levels (h : VaS w wr N on ln cn os ls cs or lr cr om lm cm ow lw cw oe le ce lv) (hg : wr.grownBy wr' (some (w.heap.size + 2))) {lv' : List Int} (hlv : wr'.heap[w.heap.size + 2]? = some (.cells (levCells lv') 3 (0, 0))) (hn : lv'.length = N + 1) (h64 : ∀ x ∈ lv', I64 x) :
    VaS w wr' N on ln cn os ls cs or lr cr om lm cm ow lw cw oe le ce lv' := by
  have hs := h.size
  have b : ∀ k, k < w.heap.size + 2 → wr'.heap[k]? = wr.heap[k]? := fun k hk => hg.block k (by omega) (fun e => by injection e; omega)
  exact ⟨⟨hg.os.trans h.below.os, hg.tape.trans h.below.tape, hg.output.trans h.below.output, Nat.le_trans h.below.size hg.size, fun k hk => (b k (by omega)).trans (h.below.block k hk)⟩, Nat.le_trans hs hg.size,
    (b _ (by omega)).trans h.prog, (b _ (by omega)).trans h.expl, hlv, hn, h64⟩
theorem VaS.ints (h : VaS w wr N on ln cn os ls cs or lr cr om lm cm ow lw cw oe le ce lv) (hN : N ≤ 4000) : IsInts wr (some ⟨w.heap.size + 2, 0, none⟩) (N + 1) lv := by
  refine ⟨h.levn, by omega, fun _ => ⟨w.heap.size + 2, 0, rfl, by have := h.size; omega, fun i x hx => ⟨[.int .i64 x], rfl, ⟨rfl, h.lev64 x (List.mem_of_getElem? hx)⟩, fun j hj => ?_⟩⟩⟩
  obtain rfl : j = 0 := by omega
  rw [(cells_of_heap h.levb).1]
  simp [levCells, hx]
end
theorem vaS_start (w : World) (N : Nat) (on : Option Addr) (ln cn : Nat) (os : Option Addr) (ls cs : Nat) (or : Option Addr) (lr cr : Nat) (om : Option Addr) (lm cm : Nat) (ow : Option Addr) (lw cw : Nat) (oe : Option Addr) (le ce : Nat) :
    VaS w (((w.alloc (.cells #[.int .i64 N, .slice on ln cn, .slice os ls cs, .slice or lr cr, .slice om lm cm] 27)).alloc (.cells #[.slice ow lw cw, .slice oe le ce] 30)).alloc (.cells (levCells (List.replicate (N + 1) 0)) 3))
      N on ln cn os ls cs or lr cr om lm cm ow lw cw oe le ce (List.replicate (N + 1) 0) := by
  refine ⟨below_alloc_of (below_alloc_of (below_alloc w _) _) _, by simp, ?_, ?_, ?_, by simp, fun x hx => ?_⟩
  · simp only [heap_alloc, World.size_alloc]; repeat (first | rw [if_pos trivial] | rw [if_pos (by omega)] | rw [if_neg (by omega)])
  · simp only [heap_alloc, World.size_alloc]; repeat (first | rw [if_pos trivial] | rw [if_pos (by omega)] | rw [if_neg (by omega)])
  · simp only [heap_alloc, World.size_alloc]; repeat (first | rw [if_pos trivial] | rw [if_pos (by omega)] | rw [if_neg (by omega)])
  · rw [(List.mem_replicate.1 hx).2]; exact ⟨by omega, by omega⟩

set_option maxRecDepth 100000 in
set_option maxHeartbeats 4000000 in
theorem valid_any (w : World) (N : Nat) (names : List ByteArray) (shown : List Int) (rules : List GRule) (mins : List GMin) (on : Option Addr) (ln cn : Nat) (os : Option Addr) (ls cs : Nat) (or : Option Addr) (lr cr : Nat) (om : Option Addr) (lm cm : Nat)
    (oa : Option Addr) (len cap : Nat) (m : List Int) (ow : Option Addr) (lw cw : Nat) (oe : Option Addr) (le ce : Nat) (x : Expl)
    (h : IsProg w N on ln os ls or lr om lm ⟨N, names, shown, rules, mins⟩) (hm : IsInts w oa len m) (hx : IsExpl w ow lw oe le x) (he : explainErr ⟨N, names, shown, rules, mins⟩ m = 0) (hbig : le + lw ≤ 17592186044416) :
    Calls Tryz.prog 56 #[.agg #[.int .i64 N, .slice on ln cn, .slice os ls cs, .slice or lr cr, .slice om lm cm], .slice oa len cap, .agg #[.slice ow lw cw, .slice oe le ce]] w
      fun e w' => e = .returned (.bool (validB ⟨N, names, shown, rules, mins⟩ m x)) ∧ Below w.heap.size w w' := by
  obtain ⟨hn0, hn1, hfe, hat⟩ := explain_ok he
  have hmi := Lib.hid (atoms_in N m none hat)
  have hms := Lib.hid (atoms_sorted N m none hat).2
  simp only at hn1
  have hRD : Hid (∀ r ∈ rules, OkBody r ∧ ∀ x ∈ r.head, I64 x) := fun r hr => by
    have := okBody_of hn0 (rules_ok hfe r hr)
    exact ⟨this.1, fun x hx => by have := this.2.1 x hx; exact ⟨by simp only at *; omega, by simp only at *; omega⟩⟩
  clear hfe hat he hn0
  have hrl := h.rules.hlen
  simp only at hrl
  obtain ⟨whys, rest⟩ := x
  have hwl := hx.whys.hlen
  have hel := hx.rest.hlen
  have hwm := hx.whys.hmax
  simp only at hwl hel
  obtain ⟨i0, hi, hz0, hz1, hz2⟩ := info_parts infoInt
  have hmk : ∀ w, (Instr.makeSlice 23 (.int .i64 ((N : Int) + 1)) (.int .i64 ((N : Int) + 1))).run Tryz.prog w = .ok (.slice (some ⟨w.heap.size, 0, none⟩) (N + 1) (N + 1)) (w.alloc (.cells (levCells (List.replicate (N + 1) 0)) 3)) := fun w => by
    have := run_make (P := Tryz.prog) (w := w) 23 3 i0 _ Tryz.underlying23 hi hz0 .i64 .i64 ((N : Int) + 1) ((N : Int) + 1) (by omega) (by omega) (by rw [hz2]; omega) (by omega)
    rw [this, show ((N : Int) + 1).toNat = N + 1 by omega, hz1, Nat.mul_one, madeCells_zero]
  clear hi hz0 hz1 hz2
  go_enter Tryz.func56, Tryz.ntmps56
  go_wp2_with fail
  have HS0 := vaS_start w N on ln cn os ls cs or lr cr om lm cm ow lw cw oe le ce
  refine (clone_any _ _ _ _ rest (hx.rest.below HS0.below)).mono ?_
  rintro e w3 ⟨ol, cl, rfl, hol, hb3⟩
  have HS := Lib.hid (HS0.below_ hb3)
  have HL : Hid (OwnI w3 (w.heap.size + 3) ol le cl rest) := by have := hol; simp only [World.size_alloc, Nat.add_assoc, Nat.reduceAdd] at this; exact this
  have hX : ∀ j, w3.cell? ⟨w.heap.size + 1, j, none⟩ = (#[.slice ow lw cw, .slice oe le ce] : Array Value)[j]? := (cells_of_heap HS.out.expl).1
  have hs3 := HS.out.size
  clear HS0 hol hb3 hmk
  go_wp2_with fail
  clear hX
  go_loopw [8, 22] (fun al i wr => ∃ (k : Nat) (oL : Option Addr) (cL : Nat), al = .slice oL (le + k) cL ∧ i = .int .i64 k ∧ k ≤ lw ∧ Hid (VaS w wr N on ln cn os ls cs or lr cr om lm cm ow lw cw oe le ce (levWhys (List.replicate (N + 1) 0) (whys.take k))) ∧
    Hid (OwnI wr (w.heap.size + 3) oL (le + k) cL (rest ++ (whys.take k).map (·.atom))) ∧ Hid (∀ y ∈ whys.take k, badWhy N lr y = false)) (fun _ i _ => lw - (intOf i).toNat)
  case atStart => exact ⟨0, ol, cl, by simp, rfl, Nat.zero_le _, HS.out, by simpa [Hid] using HL.out, by simp [Hid]⟩
  case round =>
    obtain ⟨k, oL, cL, rfl, rfl, hk, HSr, HLr, Hok⟩ := hrel
    clear HS HL
    have hsr := HSr.out.size
    have hp0 : w.heap.size < wr.heap.size := by omega
    have hp1 : w.heap.size + 1 < wr.heap.size := by omega
    have hp2 : w.heap.size + 2 < wr.heap.size := by omega
    have hP : ∀ j, wr.cell? ⟨w.heap.size, j, none⟩ = (#[.int .i64 N, .slice on ln cn, .slice os ls cs, .slice or lr cr, .slice om lm cm] : Array Value)[j]? := (cells_of_heap HSr.out.prog).1
    have hX : ∀ j, wr.cell? ⟨w.heap.size + 1, j, none⟩ = (#[.slice ow lw cw, .slice oe le ce] : Array Value)[j]? := (cells_of_heap HSr.out.expl).1
    by_cases hlt : k < lw
    · obtain ⟨b, off, y, rfl, hb, c0, c1, c2, hy1, hy2, hy3, hd, hg⟩ := (hx.whys.below HSr.out.below).at_ hlt
      have hmem : Hid (y ∈ whys) := List.mem_of_getElem? hg.out
      by_cases hbad : badWhy N lr y = true
      · have Hf : Hid (validB ⟨N, names, shown, rules, mins⟩ m ⟨whys, rest⟩ = false) := by
          have : whys.any (badWhy N rules.length) = true := List.any_eq_true.2 ⟨y, hmem.out, by rw [hrl]; exact hbad⟩
          simp [Hid, validB, this]
        have Hbad := Lib.hid hbad
        clear hbad
        go_wp2_with fail
        all_goals first
          | (go_ret; exact ⟨ret_bool Hf.out.symm, below_trans_of HSr.out.below (below_alloc _ _)⟩)
          | (exfalso; have := Hbad.out; simp [badWhy] at this; omega)
      · simp only [badWhy, Bool.or_eq_true, decide_eq_true_eq, not_or] at hbad
        obtain ⟨⟨⟨⟨b1, b2⟩, b3⟩, b4⟩, b5⟩ := hbad
        obtain ⟨⟨ya, yr, yl⟩, rfl⟩ : ∃ y' : Why, y' = y := ⟨y, rfl⟩
        simp only at b1 b2 b3 b4 b5 c0 c1 c2 hy1 hy2 hy3
        obtain ⟨yn, rfl⟩ := Int.eq_ofNat_of_zero_le (show 0 ≤ ya by omega)
        have hlf : ∀ o, wr.frozen? ⟨w.heap.size + 2, o, none⟩ = false := (cells_of_heap HSr.out.levb).2
        have hlc : ∃ z, wr.cell? ⟨w.heap.size + 2, yn, none⟩ = some z := by
          rw [(cells_of_heap HSr.out.levb).1]
          exact ⟨_, Array.getElem?_eq_getElem (by simp only [levCells, List.size_toArray, List.length_map, levWhys_length, List.length_replicate]; omega)⟩
        obtain ⟨z, hlc⟩ := hlc
        have g1 : (yn : Int) < (N : Int) + 1 := by omega
        have k1 : (1 : Int) ≤ yn := by omega
        have k2 : (yn : Int) ≤ N := by omega
        have k3 : (0 : Int) ≤ yr := by omega
        have k5 : (1 : Int) ≤ yl := by omega
        have k6 : yl ≤ 9223372036854775807 := by exact hy3.2
        have g2 : yr < lr := by omega
        clear b1 b2 b3 b4 b5
        have HLa := Lib.hid (HLr.out.grown (World.grownBy_alloc wr (.cells #[.int .i64 yn, .int .i64 yr, .int .i64 yl] 49) none) (by cases (Value.slice oL (le + k) cL).ownBlock <;> simp))
        have hlm := hx.rest.hmax
        have Gs : wr.grownBy (wr.setCell ⟨w.heap.size + 1 + 1, yn, none⟩ (.int .i64 yl)) (some (w.heap.size + 2)) := grown_set wr (w.heap.size + 1 + 1) yn (.int .i64 yl)
        have HLs := Lib.hid (HLr.out.grown Gs (.inr fun e => by have := (HLr.out.1.lt _ e).1; omega))
        have HSs := Lib.hid (HSr.out.levels Gs (lv' := levWhys (List.replicate (N + 1) 0) (whys.take (k + 1))) (by
          have e : whys.take (k + 1) = whys.take k ++ [⟨yn, yr, yl⟩] := by rw [List.take_add_one, hg.out]; rfl
          rw [e, levWhys_snoc]
          have h1 := HSr.out.levb
          simp only [World.setCell, Array.getElem?_modify, if_pos, h1]
          simp [levCells, List.map_set]) (by rw [levWhys_length]; simp) (fun x hx => by
            have e : whys.take (k + 1) = whys.take k ++ [⟨yn, yr, yl⟩] := by rw [List.take_add_one, hg.out]; rfl
            rw [e, levWhys_snoc] at hx
            rcases List.mem_or_eq_of_mem_set hx with hx | hx
            · exact HSr.out.lev64 x hx
            · rw [hx]; exact (⟨by omega, by omega⟩ : I64 yl)))
        clear Gs HLa
        have HBB : ∀ o1 o2, Below wr.heap.size (wr.setCell ⟨w.heap.size + 1 + 1, yn, none⟩ (.int .i64 yl)) (((wr.setCell ⟨w.heap.size + 1 + 1, yn, none⟩ (.int .i64 yl)).alloc o1).alloc o2) := fun o1 o2 => by
          have := below_alloc_of (below_alloc_of (Below.refl (wr.setCell ⟨w.heap.size + 1 + 1, yn, none⟩ (.int .i64 yl)).heap.size _) o1) o2
          simpa using this
        obtain ⟨AL, hAL⟩ : ∃ AL, AL = rest ++ (whys.take k).map (·.atom) := ⟨_, rfl⟩
        rw [← hAL] at HLs
        have HAL := Lib.hid hAL
        clear hAL
        go_wp2_with (at_builtin; refine wpList_append_int rfl _ _ rfl (w.heap.size + 3) _ _ _ AL yn rfl (HLs.out.below ?_) ⟨_, 0, none⟩ 1 rfl ?_ ?_ (by omega) ?_ ?_)
        · omega
        intro oa' cap' w5 hown5 hg5
        have HL5 : Hid (OwnI w5 (w.heap.size + 3) oa' (le + (k + 1)) cap' (rest ++ (whys.take (k + 1)).map (·.atom))) := by
          have e : whys.take (k + 1) = whys.take k ++ [⟨yn, yr, yl⟩] := by rw [List.take_add_one, hg.out]; rfl
          rw [e, List.map_append, ← List.append_assoc, ← HAL.out]
          exact hown5
        have HS5 := Lib.hid ((HSs.out.below_ (by (repeat (first | with_reducible exact Below.refl _ _ | with_reducible refine below_drewN_of ?_ _ | with_reducible refine below_alloc_of ?_ _ | with_reducible refine below_set_of ?_ _ _ _ (by simp) | with_reducible assumption | exact ⟨rfl, rfl, rfl, Nat.le_refl _, fun _ _ => rfl⟩)))).grown _ hg5 (fun g hgg => (HLs.out.1.lt g hgg).1))
        have Hok5 : Hid (∀ y ∈ whys.take (k + 1), badWhy N lr y = false) := by
          have e : whys.take (k + 1) = whys.take k ++ [⟨yn, yr, yl⟩] := by rw [List.take_add_one, hg.out]; rfl
          rw [e]
          intro y hy
          rcases List.mem_append.1 hy with hy | hy
          · exact Hok.out y hy
          · rw [List.mem_singleton.1 hy]; simp [badWhy]; omega
        clear hown5 hg5
        go_wp2_with fail
        go_roundw
        case rel => exact ⟨k + 1, oa', cap', rfl, by go_num, by omega, HS5.out, HL5.out, Hok5.out⟩
        case measure => simp [intOf]; omega
    · obtain rfl : k = lw := by omega
      rw [List.take_of_length_le (by omega)] at HSr HLr Hok
      go_wp2_with fail
      refine (sort_own _ _ _ _ _ _ HLr.out).mono ?_
      rintro e w4 ⟨rfl, hs4, hg4⟩
      have HS4 := Lib.hid (HSr.out.grown _ hg4 (fun g hg => (HLr.out.1.lt g hg).1))
      have HL4 : Hid (OwnI w4 (w.heap.size + 3) oL (le + k) cL (allAtoms ⟨whys, rest⟩)) := hs4
      have hany : Hid (whys.any (badWhy N rules.length) = false) := by
        rw [Hid, hrl]
        exact Bool.eq_false_iff.2 fun e => by
          obtain ⟨y, hy, hb⟩ := List.any_eq_true.1 e
          rw [Hok.out y hy] at hb; cases hb
      have hlok : Hid (∀ y ∈ whys, 0 ≤ y.rule ∧ y.rule < lr ∧ 1 ≤ y.level) := fun y hy => by
        have := Hok.out y hy; simp [badWhy] at this; omega
      clear hs4 hg4 HLr Hok hP hX
      have hs4 := HS4.out.size
      have hq0 : w.heap.size < w4.heap.size := by omega
      have hq1 : w.heap.size + 1 < w4.heap.size := by omega
      have hX : ∀ j, w4.cell? ⟨w.heap.size + 1, j, none⟩ = (#[.slice ow k cw, .slice oe le ce] : Array Value)[j]? := (cells_of_heap HS4.out.expl).1
      have Hsp : Hid (validB ⟨N, names, shown, rules, mins⟩ m ⟨whys, rest⟩ = (allAtoms ⟨whys, rest⟩ == m && (sortedB (fun a b => decide (a ≤ b)) rest && (sortedB lexW whys && whys.all (derW rules m (levWhys (List.replicate (N + 1) 0) whys)))))) := by
        have e : ((N : Int)).toNat = N := by omega
        simp only [Hid, validB, hany.out, e]; rfl
      cases h1 : (allAtoms ⟨whys, rest⟩ == m)
      · go_wp2_with (first
          | (go_at_call 109; refine (equal_any _ _ _ _ (allAtoms ⟨whys, rest⟩) _ _ _ m HL4.out.ints (hm.below HS4.out.below)).mono ?_; rw [h1]; rintro e w5 ⟨rfl, m5, rfl⟩))
        go_ret
        exact ⟨ret_bool (by rw [Hsp.out, h1]; rfl), below_drewN_of HS4.out.below _⟩
      · cases h2 : (sortedB (fun a b => decide (a ≤ b)) rest)
        · go_wp2_with (first
            | (go_at_call 109; refine (equal_any _ _ _ _ (allAtoms ⟨whys, rest⟩) _ _ _ m HL4.out.ints (hm.below HS4.out.below)).mono ?_; rw [h1]; rintro e w5 ⟨rfl, m5, rfl⟩)
            | (go_at_call 110; refine (isSorted_any _ _ _ _ rest ((hx.rest.below HS4.out.below).drewN _)).mono ?_; rw [h2]; rintro e w6 ⟨rfl, m6, rfl⟩))
          go_ret
          exact ⟨ret_bool (by rw [Hsp.out, h1, h2]; rfl), by first | exact below_drewN_of HS4.out.below _ | exact below_drewN_of (below_drewN_of HS4.out.below _) _⟩
        · cases h3 : sortedB lexW whys
          · go_wp2_with (first
              | (go_at_call 109; refine (equal_any _ _ _ _ (allAtoms ⟨whys, rest⟩) _ _ _ m HL4.out.ints (hm.below HS4.out.below)).mono ?_; rw [h1]; rintro e w5 ⟨rfl, m5, rfl⟩)
              | (go_at_call 110; refine (isSorted_any _ _ _ _ rest ((hx.rest.below HS4.out.below).drewN _)).mono ?_; rw [h2]; rintro e w6 ⟨rfl, m6, rfl⟩)
              | (go_at_call 111; refine (eordered_any _ _ _ _ whys (hx.whys.below ?_)).mono ?_; (· exact below_drewN_of HS4.out.below _); rw [h3]; rintro e w7 ⟨rfl, hb7⟩; have HB7 := Lib.hid (below_trans_of (below_drewN_of (Below.refl w4.heap.size w4) (m5 + m6)) hb7); clear hb7))
            go_ret
            exact ⟨ret_bool (by rw [Hsp.out, h1, h2, h3]; rfl), below_trans_of HS4.out.below HB7.out⟩
          · go_wp2_with (first
              | (go_at_call 109; refine (equal_any _ _ _ _ (allAtoms ⟨whys, rest⟩) _ _ _ m HL4.out.ints (hm.below HS4.out.below)).mono ?_; rw [h1]; rintro e w5 ⟨rfl, m5, rfl⟩)
              | (go_at_call 110; refine (isSorted_any _ _ _ _ rest ((hx.rest.below HS4.out.below).drewN _)).mono ?_; rw [h2]; rintro e w6 ⟨rfl, m6, rfl⟩)
              | (go_at_call 111; refine (eordered_any _ _ _ _ whys (hx.whys.below ?_)).mono ?_; (· exact below_drewN_of HS4.out.below _); rw [h3]; rintro e w7 ⟨rfl, hb7⟩; have HB7 := Lib.hid (below_trans_of (below_drewN_of (Below.refl w4.heap.size w4) (m5 + m6)) hb7); clear hb7; have HS7 := Lib.hid (HS4.out.below_ HB7.out); have hX7 : ∀ j, w7.cell? ⟨w.heap.size + 1, j, none⟩ = (#[.slice ow k cw, .slice oe le ce] : Array Value)[j]? := (cells_of_heap HS7.out.expl).1))
            have hq7 := HS7.out.size
            have hq70 : w.heap.size < w7.heap.size := by omega
            have hq71 : w.heap.size + 1 < w7.heap.size := by omega
            refine (deriver_any _ _ _ _ _ _ _).mono ?_
            rintro e w8 ⟨rfl, rfl⟩
            have HVb := below_alloc_of (below_alloc_of (below_alloc_of (below_alloc w7 (.cells #[.slice oa len cap] 23)) (.cells #[.slice (some ⟨w.heap.size + 1 + 1, 0, none⟩) (N + 1) (N + 1)] 23)) (.cells #[.func (.func 104) #[] #[.pointer (some ⟨w7.heap.size, 0, none⟩)]] 92))
              (.cells #[.func (.func 106) #[] #[.pointer (some ⟨w7.heap.size + 2, 0, none⟩), .pointer (some ⟨w7.heap.size + 1, 0, none⟩)]] 86)
            have HSV := Lib.hid (HS7.out.below_ HVb)
            have hXV : ∀ j, World.cell? _ ⟨w.heap.size + 1, j, none⟩ = (#[.slice ow k cw, .slice oe le ce] : Array Value)[j]? := (cells_of_heap HSV.out.expl).1
            have hz1 : w.heap.size < w7.heap.size + 1 := by omega
            have hz2 : w.heap.size < w7.heap.size + 1 + 1 := by omega
            have hz3 : w.heap.size < w7.heap.size + 2 := by omega
            go_wp2_with fail
            refine (containsFuncW_any _ _ _ _ whys _ (fun y => !derW rules m (levWhys (List.replicate (N + 1) 0) whys) y) (fun y => 0 ≤ y.rule ∧ y.rule < lr ∧ 1 ≤ y.level) (hx.whys.below HSV.out.below) ⟨113, _, rfl, Tryz.call113, fun W' hW' y hy hD => ?_⟩ hlok.out).mono ?_
            · have HSW := HSV.out.below_ hW'
              exact valid1_any W' y (w7.heap.size + 1 + 1 + 1) w.heap.size N on ln cn os ls cs or lr cr om lm cm (w7.heap.size + 2) (w7.heap.size + 1) w7.heap.size m _ oa len cap (some ⟨w.heap.size + 1 + 1, 0, none⟩) (N + 1) (N + 1) rules
                ((hW'.cell (p := ⟨w7.heap.size + 1 + 1 + 1, 0, none⟩) (by simp only [World.size_alloc]; omega)).trans (by simp only [World.cell?, heap_alloc, World.size_alloc]; (repeat (first | rw [if_pos trivial] | rw [if_pos (by omega)] | rw [if_neg (by omega)])); rfl)) (cells_of_heap HSW.prog).1 (h.rules.below HSW.below) hRD.out
                ⟨(hW'.cell (p := ⟨w7.heap.size + 2, 0, none⟩) (by simp only [World.size_alloc]; omega)).trans (by simp only [World.cell?, heap_alloc, World.size_alloc]; (repeat (first | rw [if_pos trivial] | rw [if_pos (by omega)] | rw [if_neg (by omega)])); rfl), (hW'.cell (p := ⟨w7.heap.size, 0, none⟩) (by simp only [World.size_alloc]; omega)).trans (by simp only [World.cell?, heap_alloc, World.size_alloc]; (repeat (first | rw [if_pos trivial] | rw [if_pos (by omega)] | rw [if_neg (by omega)])); rfl), hm.below HSW.below, hms.out.imp (fun h => Int.le_of_lt h), (hW'.cell (p := ⟨w7.heap.size + 1, 0, none⟩) (by simp only [World.size_alloc]; omega)).trans (by simp only [World.cell?, heap_alloc, World.size_alloc]; (repeat (first | rw [if_pos trivial] | rw [if_pos (by omega)] | rw [if_neg (by omega)])); rfl), HSW.ints (by omega), fun x hx => by have := hmi.out x hx; omega⟩
                hD.1 hD.2.1 hD.2.2 hy.2.2.2
            rintro e w9 ⟨rfl, hb9⟩
            have HB9 := Lib.hid (below_trans_of HSV.out.below hb9)
            clear hb9 HVb
            go_wp2_with fail
            go_ret
            exact ⟨ret_bool (by rw [Hsp.out, h1, h2, h3]; simp [List.all_eq_not_any_not]), HB9.out⟩
end Go.Proofs.YtaemfafnmhndiaaGreatDoor
namespace Go.Proofs.YtaemfafnmhndiaaGreatDoor
open Go.RowKit Go.Maps Go.WideMaps Go.Sort

def checkB (p : GProg) (m : List Int) (x : Expl) : Bool := explainErr p m == 0 && validB p m x

set_option maxRecDepth 100000 in
set_option maxHeartbeats 2000000 in
theorem check_any (w : World) (p : GProg) (n : Int) (on : Option Addr) (ln cn : Nat) (os : Option Addr) (ls cs : Nat) (or : Option Addr) (lr cr : Nat) (om : Option Addr) (lm cm : Nat)
    (oa : Option Addr) (len cap : Nat) (m : List Int) (ow : Option Addr) (lw cw : Nat) (oe : Option Addr) (le ce : Nat) (x : Expl)
    (h : IsProg w n on ln os ls or lr om lm p) (hm : IsInts w oa len m) (hx : IsExpl w ow lw oe le x) (hbig : le + lw ≤ 17592186044416) :
    Calls Tryz.prog 15 #[.agg #[.int .i64 n, .slice on ln cn, .slice os ls cs, .slice or lr cr, .slice om lm cm], .slice oa len cap, .agg #[.slice ow lw cw, .slice oe le ce]] w
      fun e w' => e = .returned (.tuple #[.bool (checkB p m x), .int .i64 (explainErr p m)]) ∧ Below w.heap.size w w' := by
  obtain ⟨pn, names, shown, rules, mins⟩ := p
  have hn := h.hn
  simp only at hn
  subst hn
  have HW0 : Hid (Below w.heap.size w ((w.alloc (.cells #[.int .i64 n, .slice on ln cn, .slice os ls cs, .slice or lr cr, .slice om lm cm] 27)).alloc (.cells #[.slice ow lw cw, .slice oe le ce] 30))) := below_alloc_of (below_alloc w _) _
  by_cases he : explainErr ⟨n, names, shown, rules, mins⟩ m = 0
  · have h0 := (explain_ok he).1
    simp only at h0
    obtain ⟨N, rfl⟩ := Int.eq_ofNat_of_zero_le h0
    have He := Lib.hid he
    clear he h0
    go_enter Tryz.func15, Tryz.ntmps15
    go_wp2_with fail
    refine (echeck_any _ _ _ _ _ _ _ _ _ _ _ _ _ _ _ _ _ _ _ (h.below HW0.out) (hm.below HW0.out)).mono ?_
    rw [He.out]
    rintro e w1 ⟨rfl, hb1⟩
    have HB1 := Lib.hid (below_trans_of HW0.out hb1)
    have hoc : ∀ j, w1.cell? ⟨w.heap.size, j, none⟩ = (#[.int .i64 N, .slice on ln cn, .slice os ls cs, .slice or lr cr, .slice om lm cm] : Array Value)[j]? := fun j => (oldCell hb1 w.heap.size j (by simp only [World.size_alloc]; omega)).trans (by simp)
    have hoc2 : ∀ j, w1.cell? ⟨w.heap.size + 1, j, none⟩ = (#[.slice ow lw cw, .slice oe le ce] : Array Value)[j]? := fun j => (oldCell hb1 (w.heap.size + 1) j (by simp)).trans (by simp)
    clear hb1
    go_wp2_with fail
    refine (valid_any w1 N names shown rules mins _ _ _ _ _ _ _ _ _ _ _ _ _ _ _ m _ _ _ _ _ _ x (h.below HB1.out) (hm.below HB1.out) (hx.below HB1.out) He.out hbig).mono ?_
    rintro e w2 ⟨rfl, hb2⟩
    go_wp2_with fail
    go_ret2
    exact ⟨ret_bi (by simp [checkB, He.out]) He.out.symm, below_trans_of HB1.out hb2⟩
  · have He : Hid (¬ explainErr ⟨n, names, shown, rules, mins⟩ m = 0) := he
    have hc1 : (explainErr ⟨n, names, shown, rules, mins⟩ m != 0) = true := by simpa using he
    clear he
    go_enter Tryz.func15, Tryz.ntmps15
    go_wp2_with fail
    refine (echeck_any _ _ _ _ _ _ _ _ _ _ _ _ _ _ _ _ _ _ _ (h.below HW0.out) (hm.below HW0.out)).mono ?_
    rintro e w1 ⟨rfl, hb1⟩
    have HB1 := Lib.hid (below_trans_of HW0.out hb1)
    clear hb1
    go_wp2_with fail
    go_ret2
    exact ⟨ret_bi (by simp [checkB, He.out]) rfl, HB1.out⟩
end Go.Proofs.YtaemfafnmhndiaaGreatDoor
namespace Go.Proofs.YtaemfafnmhndiaaGreatDoor
open Go.RowKit Go.Maps Go.WideMaps Go.Sort

def noWhy : Why := ⟨0, 0, 0⟩
/-- The last element for an atom. -/
def lookW (l : List Why) (a : Int) : Why := l.foldl (fun z y => if y.atom = a then y else z) noWhy
theorem lookW_snoc (l : List Why) (y : Why) (a : Int) : lookW (l ++ [y]) a = if y.atom = a then y else lookW l a := by simp [lookW]
theorem lookW_cases (a : Int) : ∀ (l : List Why) (z : Why), (l.foldl (fun z y => if y.atom = a then y else z) z = z) ∨ (l.foldl (fun z y => if y.atom = a then y else z) z ∈ l ∧ (l.foldl (fun z y => if y.atom = a then y else z) z).atom = a)
  | [], z => .inl rfl
  | y :: l, z => by
    rw [List.foldl_cons]
    by_cases h : y.atom = a
    · rw [if_pos h]
      rcases lookW_cases a l y with e | ⟨e1, e2⟩
      · rw [e]; exact .inr ⟨by simp, h⟩
      · exact .inr ⟨List.mem_cons_of_mem _ e1, e2⟩
    · rw [if_neg h]
      rcases lookW_cases a l z with e | ⟨e1, e2⟩
      · exact .inl e
      · exact .inr ⟨List.mem_cons_of_mem _ e1, e2⟩
theorem lookW_mem {l : List Why} {a : Int} (h : lookW l a ≠ noWhy) : lookW l a ∈ l ∧ (lookW l a).atom = a := by
  rcases lookW_cases a l noWhy with e | e
  · exact absurd e h
  · exact e
def bodyGo (l : List Why) (lev : Int) : List Int → List Int → List Int
  | out, [] => out
  | out, b :: bs => bodyGo l lev (if lookW l b ≠ noWhy ∧ (lookW l b).level < lev ∧ inB out b = false then out ++ [b] else out) bs
def suppGo (l : List Why) (rules : List GRule) : Nat → Nat → List Int → List Int
  | 0, _, out => out
  | f + 1, at_, out => match out[at_]? with
    | none => out
    | some x => suppGo l rules f (at_ + 1) (bodyGo l (lookW l x).level out (rules.getD (lookW l x).rule.toNat default).body)
def supportErr (p : GProg) (m : List Int) (x : Expl) (a : Int) : Int :=
  if explainErr p m ≠ 0 then explainErr p m else if validB p m x = false then 2 else if lookW x.whys a = noWhy then 6 else 0
def supportL (p : GProg) (m : List Int) (x : Expl) (a : Int) : List Int :=
  if supportErr p m x a ≠ 0 then [] else (suppGo x.whys p.rules (m.length + 1) 0 [a]).mergeSort fun a b => decide (a ≤ b)

theorem nodup_length : ∀ (l m : List Int), l.Nodup → (∀ x ∈ l, x ∈ m) → l.length ≤ m.length
  | [], _, _, _ => Nat.zero_le _
  | x :: l, m, hn, hs => by
    have hx : x ∈ m := hs x (by simp)
    have ih := nodup_length l (m.erase x) (List.nodup_cons.1 hn).2 (fun y hy => by
      have hne : y ≠ x := fun e => (List.nodup_cons.1 hn).1 (e ▸ hy)
      exact (List.mem_erase_of_ne hne).2 (hs y (by simp [hy])))
    rw [List.length_erase_of_mem hx] at ih
    have := List.length_pos_of_mem hx
    rw [List.length_cons]; omega

/-- What the rows hold all the while. -/
structure OutOk (l : List Why) (m out : List Int) : Prop where
  nodup : out.Nodup
  look : ∀ x ∈ out, lookW l x ≠ noWhy
  sub : ∀ x ∈ out, x ∈ m
theorem OutOk.add {l : List Why} {m out : List Int} {b : Int} (h : OutOk l m out) (hm : ∀ y ∈ l, y.atom ∈ m) (hb : lookW l b ≠ noWhy) (hin : inB out b = false) : OutOk l m (out ++ [b]) := by
  have hnb : b ∉ out := fun e => by rw [inB_eq] at hin; simp [e] at hin
  refine ⟨List.nodup_append.2 ⟨h.nodup, by simp, fun x hx y hy => ?_⟩, fun x hx => ?_, fun x hx => ?_⟩
  · rw [List.mem_singleton.1 hy]; exact fun e => hnb (e ▸ hx)
  · rcases List.mem_append.1 hx with hx | hx
    · exact h.look x hx
    · rw [List.mem_singleton.1 hx]; exact hb
  · rcases List.mem_append.1 hx with hx | hx
    · exact h.sub x hx
    · rw [List.mem_singleton.1 hx]
      have := lookW_mem hb
      rw [← this.2]; exact hm _ this.1
end Go.Proofs.YtaemfafnmhndiaaGreatDoor
namespace Go.Proofs.YtaemfafnmhndiaaGreatDoor
open Go.RowKit Go.Maps Go.WideMaps Go.Sort

def datW (y : Why) : DataW Unit := .agg [.lit (.int .i64 y.atom), .lit (.int .i64 y.rule), .lit (.int .i64 y.level)]
def encW (y : Why) : Value := .agg #[.int .i64 y.atom, .int .i64 y.rule, .int .i64 y.level]
noncomputable def readW (v : Value) : Option (DataW Unit × List MemPlace) := open Classical in if h : ∃ y, v = encW y then some (datW h.choose, []) else none
theorem encW_inj {x y : Why} (h : encW x = encW y) : x = y := by
  simp only [encW, Value.agg.injEq, Array.mk.injEq, List.cons.injEq, Value.int.injEq, true_and, and_true] at h
  cases x; cases y; simp_all
theorem datW_inj {x y : Why} (h : datW x = datW y) : x = y := by
  simp only [datW, DataW.agg.injEq, List.cons.injEq, DataW.lit.injEq, Lit.int.injEq, true_and, and_true] at h
  cases x; cases y; simp_all
theorem readW_enc (y : Why) : readW (encW y) = some (datW y, []) := by
  have h : ∃ z, encW y = encW z := ⟨y, rfl⟩
  unfold readW
  rw [dif_pos h, encW_inj h.choose_spec.symm]
theorem readW_inv : ∀ v x ps, readW v = some (datW x, ps) → v = encW x := by
  intro v x ps h
  unfold readW at h
  split at h
  · rename_i e
    have h1 := e.choose_spec
    simp only [Option.some.injEq, Prod.mk.injEq] at h
    rw [h1, datW_inj h.1]
  · cases h
abbrev Whys (P : Program) (K : TypeId) := MapOf P K readW datW noWhy
theorem whys_look {w : World} {b n : Nat} {f : Lit → Why} (h : Whys Tryz.prog 3 w b n f) {x : Int} (hx : I64 x) :
    (Instr.lookup 93 (.map (some b)) (.int .i64 x) false).run Tryz.prog w = .ok (encW (f (kI x))) w :=
  h.look (int_keyed Tryz.underlying3) Tryz.underlying93 (Tryz.zeroValue49 _) (readW_enc noWhy) encW readW_inv (keyOf_int_mk Tryz.underlying3 (wf_i64' hx))
end Go.Proofs.YtaemfafnmhndiaaGreatDoor
namespace Go.Proofs.YtaemfafnmhndiaaGreatDoor
open Go.RowKit

theorem whyGuard : Tryz.prog.eqGuardType Tryz.prog.depth 49 = false := by kernel_rfl
theorem whyHeld : Tryz.prog.stoodInHeld 49 = false := by kernel_rfl
theorem whyFields : Tryz.prog.fieldsOf 49 = ((Tryz.prog.underlying 49).elim #[] fun u => match u with | .struct fs => fs | _ => #[]) := by
  unfold Program.fieldsOf; cases Tryz.prog.underlying 49 with
  | none => rfl
  | some u => cases u <;> rfl
theorem eqW_guard (op : BinOp) (x y : Operand) (u v : Why) (w : World) : (eqGuard op 49 x y (encW u) (encW v)).run Tryz.prog w = .ok () w := run_eqGuard_agg w op _ x y _ _ whyGuard
theorem eqW_run (u v : Why) (w : World) : (binOp BinOp.eql 49 (encW u) (encW v)).run Tryz.prog w = .ok (.bool (decide (u = v))) w := by
  have hu := Tryz.underlying49
  have h3 := Tryz.underlying3
  have hf : Tryz.prog.fieldsOf 49 = #[{ name := "Atom", type := 3, offset := 0, embedded := false, tag := "", pkgPath := "", byteOffset := 0 }, { name := "Rule", type := 3, offset := 1, embedded := false, tag := "", pkgPath := "", byteOffset := 8 }, { name := "Level", type := 3, offset := 2, embedded := false, tag := "", pkgPath := "", byteOffset := 16 }] := by
    unfold Program.fieldsOf; rw [hu]
  rw [encW, encW, run_eql_struct, run_equalIn_agg w 9999 _ _ _ (by rw [hf]; exact hu) whyHeld, hf]
  simp [go_sem, Op.eqFields, h3]
  obtain ⟨a1, a2, a3⟩ := u
  obtain ⟨b1, b2, b3⟩ := v
  simp only [Why.mk.injEq]
  by_cases h1 : a1 = b1 <;> by_cases h2 : a2 = b2 <;> by_cases h3 : a3 = b3 <;> simp [h1, h2, h3]
theorem neW_run (u v : Why) (w : World) : (binOp BinOp.neq 49 (encW u) (encW v)).run Tryz.prog w = .ok (.bool (!decide (u = v))) w := by
  have hu := Tryz.underlying49
  have h3 := Tryz.underlying3
  have hf : Tryz.prog.fieldsOf 49 = #[{ name := "Atom", type := 3, offset := 0, embedded := false, tag := "", pkgPath := "", byteOffset := 0 }, { name := "Rule", type := 3, offset := 1, embedded := false, tag := "", pkgPath := "", byteOffset := 8 }, { name := "Level", type := 3, offset := 2, embedded := false, tag := "", pkgPath := "", byteOffset := 16 }] := by
    unfold Program.fieldsOf; rw [hu]
  rw [encW, encW, run_neq_struct, run_equalIn_agg w 9999 _ _ _ (by rw [hf]; exact hu) whyHeld, hf]
  simp [go_sem, Op.eqFields, h3]
  obtain ⟨a1, a2, a3⟩ := u
  obtain ⟨b1, b2, b3⟩ := v
  simp only [Why.mk.injEq]
  by_cases h1 : a1 = b1 <;> by_cases h2 : a2 = b2 <;> by_cases h3 : a3 = b3 <;> simp [h1, h2, h3]
/-- As the walk spells it: against the zero element. -/
theorem eqW_zero (u : Why) (w : World) : (binOp BinOp.eql 49 (encW u) (.agg #[.int .i64 0, .int .i64 0, .int .i64 0])).run Tryz.prog w = .ok (.bool (decide (u = noWhy))) w := eqW_run u noWhy w
theorem neW_zero (u : Why) (w : World) : (binOp BinOp.neq 49 (encW u) (.agg #[.int .i64 0, .int .i64 0, .int .i64 0])).run Tryz.prog w = .ok (.bool (!decide (u = noWhy))) w := neW_run u noWhy w
theorem guardW_zero (op : BinOp) (x y : Operand) (u : Why) (w : World) : (eqGuard op 49 x y (encW u) (.agg #[.int .i64 0, .int .i64 0, .int .i64 0])).run Tryz.prog w = .ok () w := eqW_guard op x y u noWhy w
end Go.Proofs.YtaemfafnmhndiaaGreatDoor
namespace Go.Proofs.YtaemfafnmhndiaaGreatDoor
open Go.RowKit

theorem any_bigW {ws : List Int} (h : ∀ y ∈ ws, 0 ≤ y ∧ y ≤ 1048576) : (ws.any fun x => decide (x < 0) || decide (1048576 < x)) = false := by
  rw [List.any_eq_false]
  intro y hy
  have := h y hy
  simp; omega
theorem inB_no {l : List Int} {x : Int} (h : ∀ y ∈ l, y ≠ x) : inB l x = false := by
  cases e : inB l x
  · rfl
  · exact absurd rfl (h x ((inB_iff _ _).1 e))
/-- The literals of a body that reduct.Body takes. -/
structure OkLits (r : GRule) : Prop where
  few : r.body.length ≤ 8000
  nz : ∀ x ∈ r.body, x ≠ 0

set_option maxRecDepth 100000 in
set_option maxHeartbeats 4000000 in
theorem Body_any (w : World) (r : GRule) (oh : Option Addr) (lh ch : Nat) (ob : Option Addr) (lb cb : Nat) (ow : Option Addr) (lw cw : Nat) (oa : Option Addr) (len cap : Nat) (m : List Int)
    (hh : IsInts w oh lh r.head) (hb : IsInts w ob lb r.body) (hw : IsInts w ow lw r.w) (hr : I64 r.bound) (hok : OkBody r) (hl : OkLits r) (hm : IsInts w oa len m) :
    Calls Tryz.prog 32 #[.agg #[.bool r.choice, .slice oh lh ch, .bool r.sum, .int .i64 r.bound, .slice ob lb cb, .slice ow lw cw], .slice oa len cap] w
      fun e w' => e = .returned (.bool (bodyB (inB m) r)) ∧ Below w.heap.size w w' := by
  have HB := Lib.hid (fun (W : World) (fv : Value) (h : Below w.heap.size w W) (hf : FnPred Tryz.prog I64 W fv (inB m)) => body_any W r oh lh ch ob lb cb ow lw cw fv (inB m) (hh.below h) (hb.below h) (hw.below h) hr hok hf)
  have h0 := inB_no (l := r.body) (x := 0) (fun y hy => hl.nz y hy)
  have h1 := inB_no (l := r.body) (x := -9223372036854775808) (fun y hy => by have := (hok.lits y hy).1; omega)
  have hlen := hl.few
  obtain ⟨choice, head, sum, bound, body, ws⟩ := r
  simp only at hh hb hw hr HB h0 h1 hlen ⊢
  have L2 := Lib.hid hb.hlen
  have L3 := Lib.hid hw.hlen
  have M2 := hb.hmax
  have M3 := hw.hmax
  have hlb : lb ≤ 8000 := by rw [← L2.out]; exact hlen
  have H0 := Lib.hid h0
  have H1 := Lib.hid h1
  have Hok := Lib.hid hok
  clear h0 h1 hlen hl hok
  generalize hBB : bodyB (inB m) ⟨choice, head, sum, bound, body, ws⟩ = BB at HB
  clear hBB
  have hlt : decide ((8000 : Int) < lb) = false := by simp; omega
  cases sum
  · go_enter Tryz.func32, Tryz.ntmps32
    go_wp2_with (go_at_call 57; refine (contains_any _ _ _ _ body _ (hb.below ?_)).mono ?_; (· (repeat (first | with_reducible exact Below.refl _ _ | with_reducible refine below_drewN_of ?_ _ | with_reducible refine below_alloc_of ?_ _ | with_reducible refine below_set_of ?_ _ _ _ (by simp) | with_reducible assumption | exact ⟨rfl, rfl, rfl, Nat.le_refl _, fun _ _ => rfl⟩))); (first | rw [H0.out] | rw [H1.out]); rintro e w1 ⟨rfl, m1, rfl⟩)
    go_region_held3 (fun w' => w'.cell? ⟨w.heap.size, 0, none⟩ = some (.bool choice) ∧ w'.cell? ⟨w.heap.size, 1, none⟩ = some (.slice oh lh ch) ∧ w'.cell? ⟨w.heap.size, 2, none⟩ = some (.bool false) ∧ w'.cell? ⟨w.heap.size, 3, none⟩ = some (.int .i64 bound) ∧ w'.cell? ⟨w.heap.size, 4, none⟩ = some (.slice ob lb cb) ∧ w'.cell? ⟨w.heap.size, 5, none⟩ = some (.slice ow lw cw)) (first | go_keep | (simp [hbx3]; done) | (simp [hbx4]; done)) (first
      | (go_at_call 79; refine (member_any _ _ _ _ m (hm.below ?_)).mono ?_; (· (repeat (first | with_reducible exact Below.refl _ _ | with_reducible refine below_drewN_of ?_ _ | with_reducible refine below_alloc_of ?_ _ | with_reducible refine below_set_of ?_ _ _ _ (by simp) | with_reducible assumption | exact ⟨rfl, rfl, rfl, Nat.le_refl _, fun _ _ => rfl⟩))); rintro e w3 ⟨fv, rfl, hfv, hb3⟩; have hbx3 : ∀ j, w3.cell? ⟨w.heap.size, j, none⟩ = (#[.bool choice, .slice oh lh ch, .bool false, .int .i64 bound, .slice ob lb cb, .slice ow lw cw] : Array Value)[j]? := fun j => (oldCell hb3 w.heap.size j (by simp)).trans (by simp))
      | (go_at_call 78; refine (HB.out _ _ ?_ hfv).mono ?_; (· exact below_trans_of (below_drewN_of (below_alloc w _) _) hb3); rintro e w4 ⟨rfl, hb4⟩; have hbx4 : ∀ j, w4.cell? ⟨w.heap.size, j, none⟩ = (#[.bool choice, .slice oh lh ch, .bool false, .int .i64 bound, .slice ob lb cb, .slice ow lw cw] : Array Value)[j]? := fun j => (oldCell hb4 w.heap.size j (by have := hb3.size; simp at this; omega)).trans (hbx3 j)))
    go_wp2
    go_ret
    exact ⟨rfl, below_trans_of (below_trans_of (below_drewN_of (below_alloc w _) _) hb3) hb4⟩
  · have h2 := Hok.out.len rfl
    have h3 := Hok.out.ws rfl
    have hne : ((lw : Int) != (lb : Int)) = false := by
      have := L2.out; have := L3.out; simp only at h2
      simp; omega
    have hbig := any_bigW h3
    have Hbig := Lib.hid hbig
    clear h2 h3 hbig
    go_enter Tryz.func32, Tryz.ntmps32
    go_wp2_with (first
      | (go_at_call 57; refine (contains_any _ _ _ _ body _ (hb.below ?_)).mono ?_; (· (repeat (first | with_reducible exact Below.refl _ _ | with_reducible refine below_drewN_of ?_ _ | with_reducible refine below_alloc_of ?_ _ | with_reducible refine below_set_of ?_ _ _ _ (by simp) | with_reducible assumption | exact ⟨rfl, rfl, rfl, Nat.le_refl _, fun _ _ => rfl⟩))); (first | rw [H0.out] | rw [H1.out]); rintro e w1 ⟨rfl, m1, rfl⟩))
    refine (containsFuncI_any _ _ _ _ ws _ (fun x => decide (x < 0) || decide (1048576 < x)) (fun _ => True) (hw.below ?_) ⟨77, _, rfl, Tryz.call77, fun W hW x _ => by simpa using bigW_any W x⟩ (fun _ _ => trivial)).mono ?_
    · (repeat (first | with_reducible exact Below.refl _ _ | with_reducible refine below_drewN_of ?_ _ | with_reducible refine below_alloc_of ?_ _ | with_reducible refine below_set_of ?_ _ _ _ (by simp) | with_reducible assumption | exact ⟨rfl, rfl, rfl, Nat.le_refl _, fun _ _ => rfl⟩))
    rw [Hbig.out]
    rintro e wz ⟨rfl, hbz⟩
    have HBz : Hid (Below w.heap.size w wz) := below_trans_of (below_drewN_of (below_alloc w _) _) hbz
    have hbxz : ∀ j, wz.cell? ⟨w.heap.size, j, none⟩ = (#[.bool choice, .slice oh lh ch, .bool true, .int .i64 bound, .slice ob lb cb, .slice ow lw cw] : Array Value)[j]? := fun j => (oldCell hbz w.heap.size j (by simp)).trans (by simp)
    have hsz : w.heap.size < wz.heap.size := by have := hbz.size; simp at this; omega
    clear hbz
    go_wp2_with fail
    go_region_held3 (fun w' => w'.cell? ⟨w.heap.size, 0, none⟩ = some (.bool choice) ∧ w'.cell? ⟨w.heap.size, 1, none⟩ = some (.slice oh lh ch) ∧ w'.cell? ⟨w.heap.size, 2, none⟩ = some (.bool true) ∧ w'.cell? ⟨w.heap.size, 3, none⟩ = some (.int .i64 bound) ∧ w'.cell? ⟨w.heap.size, 4, none⟩ = some (.slice ob lb cb) ∧ w'.cell? ⟨w.heap.size, 5, none⟩ = some (.slice ow lw cw)) (first | go_keep | (simp [hbx3]; done) | (simp [hbx4]; done)) (first
      | (go_at_call 79; refine (member_any _ _ _ _ m (hm.below ?_)).mono ?_; (· first | exact HBz.out | exact HBz.out.drew); rintro e w3 ⟨fv, rfl, hfv, hb3⟩; have hbx3 : ∀ j, w3.cell? ⟨w.heap.size, j, none⟩ = (#[.bool choice, .slice oh lh ch, .bool true, .int .i64 bound, .slice ob lb cb, .slice ow lw cw] : Array Value)[j]? := fun j => (oldCell hb3 w.heap.size j (by show w.heap.size < wz.heap.size; omega)).trans (hbxz j))
      | (go_at_call 78; refine (HB.out _ _ ?_ hfv).mono ?_; (· exact below_trans_of HBz.out.drew hb3); rintro e w4 ⟨rfl, hb4⟩; have hbx4 : ∀ j, w4.cell? ⟨w.heap.size, j, none⟩ = (#[.bool choice, .slice oh lh ch, .bool true, .int .i64 bound, .slice ob lb cb, .slice ow lw cw] : Array Value)[j]? := fun j => (oldCell hb4 w.heap.size j (by have := hb3.size; simp at this; omega)).trans (hbx3 j)))
    go_wp2
    go_ret
    exact ⟨rfl, below_trans_of (below_trans_of HBz.out.drew hb3) hb4⟩
end Go.Proofs.YtaemfafnmhndiaaGreatDoor
namespace Go.Proofs.YtaemfafnmhndiaaGreatDoor
open Go.RowKit

set_option maxHeartbeats 1000000 in
theorem block1_any (w : World) (x : Int) (hx : DLit x) (Bm : Nat) (oa : Option Addr) (len cap : Nat) (m : List Int) (hB : w.cell? ⟨Bm, 0, none⟩ = some (.slice oa len cap)) (hm : IsInts w oa len m) (h0 : x ≠ 0) :
    Calls Tryz.prog 117 #[.int .i64 x, .pointer (some ⟨Bm, 0, none⟩)] w fun e w' => e = .returned (.bool (!holdsB (inB m) x)) ∧ Below w.heap.size w w' := by
  obtain ⟨h1, h2⟩ := hx
  by_cases hp : 0 < x
  · have Hs : Hid (holdsB (inB m) x = inB m x) := by simp [Hid, holdsB, hp]
    have e1 : max x (-x) = x := by omega
    have HC := Lib.hid (contains_any w oa len cap m x hm)
    clear h0
    go_enter Tryz.func117, Tryz.ntmps117
    go_wp2_with (go_at_call 57; refine HC.out.mono ?_; rintro e w1 ⟨rfl, m1, rfl⟩)
    go_ret
    exact ⟨ret_bool (by first | (rw [Hs.out]; done) | (rw [Hs.out]; cases inB m x <;> simp [hp])), below_drewN w _⟩
  · have Hs : Hid (holdsB (inB m) x = !inB m (-x)) := by simp [Hid, holdsB, hp]
    have hn : x < 0 := by omega
    have e1 : max x (-x) = -x := by omega
    have HC := Lib.hid (contains_any w oa len cap m (-x) hm)
    clear h0
    go_enter Tryz.func117, Tryz.ntmps117
    go_wp2_with (go_at_call 57; refine HC.out.mono ?_; rintro e w1 ⟨rfl, m1, rfl⟩)
    go_ret
    exact ⟨ret_bool (by first | (rw [Hs.out]; done) | (rw [Hs.out]; cases inB m (-x) <;> simp [hp])), below_drewN w _⟩

set_option maxHeartbeats 1000000 in
theorem block2_any (w : World) (x : Int) (Bm : Nat) (oa : Option Addr) (len cap : Nat) (m : List Int) (hB : w.cell? ⟨Bm, 0, none⟩ = some (.slice oa len cap)) (hm : IsInts w oa len m) :
    Calls Tryz.prog 118 #[.int .i64 x, .pointer (some ⟨Bm, 0, none⟩)] w fun e w' => e = .returned (.bool (inB m x)) ∧ Below w.heap.size w w' := by
  have HC := Lib.hid (contains_any w oa len cap m x hm)
  go_enter Tryz.func118, Tryz.ntmps118
  go_wp2_with (go_at_call 57; refine HC.out.mono ?_; rintro e w1 ⟨rfl, m1, rfl⟩)
  go_ret
  exact ⟨rfl, below_drewN w _⟩

def blockK (r : GRule) (m : List Int) : Int := if bodyB (inB m) r then (if r.choice then 4 else 3) else if r.sum then 2 else 1
def blockL (r : GRule) (m : List Int) : Int :=
  if bodyB (inB m) r then (if r.choice then 0 else r.head.getD (firstI (inB m) r.head 0).toNat 0) else if r.sum then 0 else r.body.getD (firstI (fun x => !holdsB (inB m) x) r.body 0).toNat 0

theorem first_hit {p : Int → Bool} {l : List Int} (h : l.any p = true) : ∃ i x, l[i]? = some x ∧ firstI p l 0 = (i : Nat) ∧ i < l.length ∧ p x = true := by
  have key : ∀ (l : List Int) (k : Nat), l.any p = true → ∃ i x, l[i]? = some x ∧ firstI p l k = ((k + i : Nat) : Int) ∧ i < l.length ∧ p x = true := by
    intro l
    induction l with
    | nil => intro k h; simp at h
    | cons y l ih =>
      intro k h
      by_cases hy : p y = true
      · exact ⟨0, y, rfl, by simp [firstI, hy], by simp, hy⟩
      · have h' : l.any p = true := by simpa [hy] using h
        obtain ⟨i, x, h1, h2, h3, h4⟩ := ih (k + 1) h'
        refine ⟨i + 1, x, by simpa using h1, ?_, by simpa using h3, h4⟩
        rw [firstI, if_neg hy]
        have e : ((k : Int) + 1) = ((k + 1 : Nat) : Int) := by omega
        rw [e, h2]; omega
  obtain ⟨i, x, h1, h2, h3, h4⟩ := key l 0 h
  exact ⟨i, x, h1, by simpa using h2, h3, h4⟩

set_option maxRecDepth 100000 in
set_option maxHeartbeats 4000000 in
theorem block_any (w : World) (r : GRule) (oh : Option Addr) (lh ch : Nat) (ob : Option Addr) (lb cb : Nat) (ow : Option Addr) (lw cw : Nat) (oa : Option Addr) (len cap : Nat) (m : List Int)
    (hh : IsInts w oh lh r.head) (hb : IsInts w ob lb r.body) (hw : IsInts w ow lw r.w) (hr : I64 r.bound) (hok : OkBody r) (hl : OkLits r) (hs : satB (inB m) r = true) (hm : IsInts w oa len m)
    (K L : Int) (hK : K = blockK r m) (hL : L = blockL r m) :
    Calls Tryz.prog 59 #[.agg #[.bool r.choice, .slice oh lh ch, .bool r.sum, .int .i64 r.bound, .slice ob lb cb, .slice ow lw cw], .slice oa len cap] w
      fun e w' => e = .returned (.agg #[.int .i64 0, .int .u8 K, .int .i64 L]) ∧ Below w.heap.size w w' := by
  have HB := Lib.hid (fun (W : World) (h : Below w.heap.size w W) => Body_any W r oh lh ch ob lb cb ow lw cw oa len cap m (hh.below h) (hb.below h) (hw.below h) hr hok hl (hm.below h))
  have HL := Lib.hid (fun x hx => (⟨hok.lits x hx, hl.nz x hx⟩ : DLit x ∧ x ≠ 0))
  have hM := hh.hmax
  have hM2 := hb.hmax
  cases hbody : bodyB (inB m) r
  · cases hsum : r.sum
    · have hany : r.body.any (fun x => !holdsB (inB m) x) = true := by
        have : r.body.all (holdsB (inB m)) = false := by simpa [bodyB, hsum] using hbody
        rw [List.all_eq_not_any_not] at this
        simpa using this
      obtain ⟨i, x, hx, hf, hi, _⟩ := first_hit hany
      have hK' : K = 1 := by rw [hK]; simp [blockK, hbody, hsum]
      have hL' : L = x := by rw [hL]; simp [blockL, hbody, hsum, hf, List.getD, hx]
      have hlb := hb.hlen
      have hil : i < lb := by omega
      obtain ⟨bb, oo, z, hob, hcz, hz1, hz2, hdz, hgz⟩ := hb.at_ hil
      have hzx : z = L := by have := hgz.out; rw [hx] at this; rw [hL']; simpa using this.symm
      rw [hzx] at hcz
      clear hL' hzx hdz hgz
      subst hK'
      obtain ⟨choice, head, sum, bound, body, ws⟩ := r
      simp only at hsum hh hb hw hr HB HL hf hlb ⊢
      subst hsum hob
      have HF := Lib.hid hf
      have HBd := Lib.hid hbody
      have e1 : (0 : Int) ≤ i := by omega
      have e2 : (i : Int) < lb := by omega
      clear hK hL hf hbody hany hx hi hok hl hs hlb
      go_enter Tryz.func59, Tryz.ntmps59
      go_wp2_with fail
      refine (HB.out _ (by (repeat (first | with_reducible exact Below.refl _ _ | with_reducible refine below_drewN_of ?_ _ | with_reducible refine below_alloc_of ?_ _ | with_reducible refine below_set_of ?_ _ _ _ (by simp) | with_reducible assumption | exact ⟨rfl, rfl, rfl, Nat.le_refl _, fun _ _ => rfl⟩)))).mono ?_
      rw [HBd.out]
      rintro e w1 ⟨rfl, hb1⟩
      have HB1 : Hid (Below w.heap.size w w1) := below_trans_of (by (repeat (first | with_reducible exact Below.refl _ _ | with_reducible refine below_drewN_of ?_ _ | with_reducible refine below_alloc_of ?_ _ | with_reducible refine below_set_of ?_ _ _ _ (by simp) | with_reducible assumption | exact ⟨rfl, rfl, rfl, Nat.le_refl _, fun _ _ => rfl⟩))) hb1
      have hbx1 : ∀ j, w1.cell? ⟨w.heap.size, j, none⟩ = (#[.bool choice, .slice oh lh ch, .bool false, .int .i64 bound, .slice (some ⟨bb, oo, none⟩) lb cb, .slice ow lw cw] : Array Value)[j]? := fun j => (oldCell hb1 w.heap.size j (by simp only [World.size_alloc]; omega)).trans (by simp only [World.cell?, heap_alloc, World.size_alloc]; (repeat (first | rw [if_pos trivial] | rw [if_pos (by omega)] | rw [if_neg (by omega)])); rfl)
      have hbm1 : ∀ j, w1.cell? ⟨w.heap.size + 1, j, none⟩ = (#[.slice oa len cap] : Array Value)[j]? := fun j => (oldCell hb1 (w.heap.size + 1) j (by simp only [World.size_alloc]; omega)).trans (by simp only [World.cell?, heap_alloc, World.size_alloc]; (repeat (first | rw [if_pos trivial] | rw [if_pos (by omega)] | rw [if_neg (by omega)])); rfl)
      have hbr1 : ∀ j, w1.cell? ⟨w.heap.size + 2, j, none⟩ = (#[.int .i64 0, .int .u8 0, .int .i64 0] : Array Value)[j]? := fun j => (oldCell hb1 (w.heap.size + 2) j (by simp)).trans (by simp only [World.cell?, heap_alloc, World.size_alloc]; (repeat (first | rw [if_pos trivial] | rw [if_pos (by omega)] | rw [if_neg (by omega)])); rfl)
      have hfr1 : ∀ j, w1.frozen? ⟨w.heap.size + 2, j, none⟩ = false := fun j => (oldFrozen hb1 (w.heap.size + 2) j (by simp)).trans (by simp only [World.frozen?, heap_alloc, World.size_alloc]; (repeat (first | rw [if_pos trivial] | rw [if_pos (by omega)] | rw [if_neg (by omega)])); rfl)
      have hs1 := hb1.size
      simp only [World.size_alloc] at hs1
      clear hb1
      go_wp2_with fail
      refine (HB.out _ HB1.out).mono ?_
      rw [HBd.out]
      rintro e w2 ⟨rfl, hb2⟩
      have HB2 : Hid (Below w.heap.size w w2) := below_trans_of HB1.out hb2
      have hbx2 : ∀ j, w2.cell? ⟨w.heap.size, j, none⟩ = (#[.bool choice, .slice oh lh ch, .bool false, .int .i64 bound, .slice (some ⟨bb, oo, none⟩) lb cb, .slice ow lw cw] : Array Value)[j]? := fun j => (oldCell hb2 w.heap.size j (by omega)).trans (hbx1 j)
      have hbm2 : ∀ j, w2.cell? ⟨w.heap.size + 1, j, none⟩ = (#[.slice oa len cap] : Array Value)[j]? := fun j => (oldCell hb2 (w.heap.size + 1) j (by omega)).trans (hbm1 j)
      have hbr2 : ∀ j, w2.cell? ⟨w.heap.size + 2, j, none⟩ = (#[.int .i64 0, .int .u8 0, .int .i64 0] : Array Value)[j]? := fun j => (oldCell hb2 (w.heap.size + 2) j (by omega)).trans (hbr1 j)
      have hfr2 : ∀ j, w2.frozen? ⟨w.heap.size + 2, j, none⟩ = false := fun j => (oldFrozen hb2 (w.heap.size + 2) j (by omega)).trans (hfr1 j)
      have hs2 := hb2.size
      clear hb2 hbx1 hbm1 hbr1 hfr1
      go_wp2_with fail
      have hcz2 : w2.cell? ⟨bb, oo + i, none⟩ = some (.int .i64 L) := (HB2.out.cell (p := ⟨bb, oo + i, none⟩) (cell_lt hcz)).trans hcz
      have HFP : FnPred Tryz.prog (fun x => DLit x ∧ x ≠ 0) w2 (.func (.func 117) #[] #[.pointer (some ⟨w.heap.size + 1, 0, none⟩)]) (fun x => !holdsB (inB m) x) := by
        refine ⟨117, _, rfl, Tryz.call117, fun W hW x hx => ?_⟩
        have h1 := (oldCell hW (w.heap.size + 1) 0 (by omega)).trans (hbm2 0)
        exact block1_any W x hx.1 (w.heap.size + 1) oa len cap m h1 (hm.below (below_trans_of HB2.out hW)) hx.2
      refine (indexFuncI_any _ _ _ _ body _ (fun x => !holdsB (inB m) x) (fun x => DLit x ∧ x ≠ 0) (hb.below HB2.out) HFP HL.out).mono ?_
      rw [HF.out]
      rintro e w3 ⟨rfl, hb3⟩
      have hcz3 : w3.cell? ⟨bb, oo + i, none⟩ = some (.int .i64 L) := (hb3.cell (p := ⟨bb, oo + i, none⟩) (cell_lt hcz2)).trans hcz2
      have HB3 : Hid (Below w.heap.size w w3) := below_trans_of HB2.out hb3
      have hbx3 : ∀ j, w3.cell? ⟨w.heap.size, j, none⟩ = (#[.bool choice, .slice oh lh ch, .bool false, .int .i64 bound, .slice (some ⟨bb, oo, none⟩) lb cb, .slice ow lw cw] : Array Value)[j]? := fun j => (oldCell hb3 w.heap.size j (by omega)).trans (hbx2 j)
      have hbm3 : ∀ j, w3.cell? ⟨w.heap.size + 1, j, none⟩ = (#[.slice oa len cap] : Array Value)[j]? := fun j => (oldCell hb3 (w.heap.size + 1) j (by omega)).trans (hbm2 j)
      have hbr3 : ∀ j, w3.cell? ⟨w.heap.size + 2, j, none⟩ = (#[.int .i64 0, .int .u8 0, .int .i64 0] : Array Value)[j]? := fun j => (oldCell hb3 (w.heap.size + 2) j (by omega)).trans (hbr2 j)
      have hfr3 : ∀ j, w3.frozen? ⟨w.heap.size + 2, j, none⟩ = false := fun j => (oldFrozen hb3 (w.heap.size + 2) j (by omega)).trans (hfr2 j)
      have hs3 := hb3.size
      clear HFP hcz2 hb3 hbx2 hbm2 hbr2 hfr2
      go_wp2_with fail
      exact bodyPost_ret (v := .agg #[.int .i64 0, .int .u8 1, .int .i64 L]) (by simp [results, Tryz.results59, go_sem, hbr3]) rfl ⟨rfl, below_set_of (below_set_of (below_set_of HB3.out _ _ _ (by omega)) _ _ _ (by omega)) _ _ _ (by omega)⟩
    · have hK' : K = 2 := by rw [hK]; simp [blockK, hbody, hsum]
      have hL' : L = 0 := by rw [hL]; simp [blockL, hbody, hsum]
      subst hK' hL'
      obtain ⟨choice, head, sum, bound, body, ws⟩ := r
      simp only at hsum hh hb hw hr HB HL ⊢
      subst hsum
      have HBd := Lib.hid hbody
      clear hK hL hbody hok hl hs
      go_enter Tryz.func59, Tryz.ntmps59
      go_wp2_with fail
      refine (HB.out _ (by (repeat (first | with_reducible exact Below.refl _ _ | with_reducible refine below_drewN_of ?_ _ | with_reducible refine below_alloc_of ?_ _ | with_reducible refine below_set_of ?_ _ _ _ (by simp) | with_reducible assumption | exact ⟨rfl, rfl, rfl, Nat.le_refl _, fun _ _ => rfl⟩)))).mono ?_
      rw [HBd.out]
      rintro e w1 ⟨rfl, hb1⟩
      have HB1 : Hid (Below w.heap.size w w1) := below_trans_of (by (repeat (first | with_reducible exact Below.refl _ _ | with_reducible refine below_drewN_of ?_ _ | with_reducible refine below_alloc_of ?_ _ | with_reducible refine below_set_of ?_ _ _ _ (by simp) | with_reducible assumption | exact ⟨rfl, rfl, rfl, Nat.le_refl _, fun _ _ => rfl⟩))) hb1
      have hbx1 : ∀ j, w1.cell? ⟨w.heap.size, j, none⟩ = (#[.bool choice, .slice oh lh ch, .bool true, .int .i64 bound, .slice ob lb cb, .slice ow lw cw] : Array Value)[j]? := fun j => (oldCell hb1 w.heap.size j (by simp only [World.size_alloc]; omega)).trans (by simp only [World.cell?, heap_alloc, World.size_alloc]; (repeat (first | rw [if_pos trivial] | rw [if_pos (by omega)] | rw [if_neg (by omega)])); rfl)
      have hbm1 : ∀ j, w1.cell? ⟨w.heap.size + 1, j, none⟩ = (#[.slice oa len cap] : Array Value)[j]? := fun j => (oldCell hb1 (w.heap.size + 1) j (by simp only [World.size_alloc]; omega)).trans (by simp only [World.cell?, heap_alloc, World.size_alloc]; (repeat (first | rw [if_pos trivial] | rw [if_pos (by omega)] | rw [if_neg (by omega)])); rfl)
      have hbr1 : ∀ j, w1.cell? ⟨w.heap.size + 2, j, none⟩ = (#[.int .i64 0, .int .u8 0, .int .i64 0] : Array Value)[j]? := fun j => (oldCell hb1 (w.heap.size + 2) j (by simp)).trans (by simp only [World.cell?, heap_alloc, World.size_alloc]; (repeat (first | rw [if_pos trivial] | rw [if_pos (by omega)] | rw [if_neg (by omega)])); rfl)
      have hfr1 : ∀ j, w1.frozen? ⟨w.heap.size + 2, j, none⟩ = false := fun j => (oldFrozen hb1 (w.heap.size + 2) j (by simp)).trans (by simp only [World.frozen?, heap_alloc, World.size_alloc]; (repeat (first | rw [if_pos trivial] | rw [if_pos (by omega)] | rw [if_neg (by omega)])); rfl)
      have hs1 := hb1.size
      simp only [World.size_alloc] at hs1
      clear hb1
      go_wp2_with fail
      exact bodyPost_ret (v := .agg #[.int .i64 0, .int .u8 2, .int .i64 0]) (by simp [results, Tryz.results59, go_sem, hbr1]) rfl ⟨rfl, below_set_of (below_set_of (below_set_of HB1.out _ _ _ (by omega)) _ _ _ (by omega)) _ _ _ (by omega)⟩
  · cases hch : r.choice
    · have hany : r.head.any (inB m) = true := by simpa [satB, hbody, hch] using hs
      obtain ⟨i, x, hx, hf, hi, _⟩ := first_hit hany
      have hK' : K = 3 := by rw [hK]; simp [blockK, hbody, hch]
      have hL' : L = x := by rw [hL]; simp [blockL, hbody, hch, hf, List.getD, hx]
      have hlb := hh.hlen
      have hil : i < lh := by omega
      obtain ⟨bb, oo, z, hob, hcz, hz1, hz2, hdz, hgz⟩ := hh.at_ hil
      have hzx : z = L := by have := hgz.out; rw [hx] at this; rw [hL']; simpa using this.symm
      rw [hzx] at hcz
      clear hL' hzx hdz hgz
      subst hK'
      obtain ⟨choice, head, sum, bound, body, ws⟩ := r
      simp only at hch hh hb hw hr HB HL hf hlb ⊢
      subst hch hob
      have HF := Lib.hid hf
      have HBd := Lib.hid hbody
      have e1 : (0 : Int) ≤ i := by omega
      have e2 : (i : Int) < lh := by omega
      clear hK hL hf hbody hany hx hi hok hl hs hlb
      go_enter Tryz.func59, Tryz.ntmps59
      go_wp2_with fail
      refine (HB.out _ (by (repeat (first | with_reducible exact Below.refl _ _ | with_reducible refine below_drewN_of ?_ _ | with_reducible refine below_alloc_of ?_ _ | with_reducible refine below_set_of ?_ _ _ _ (by simp) | with_reducible assumption | exact ⟨rfl, rfl, rfl, Nat.le_refl _, fun _ _ => rfl⟩)))).mono ?_
      rw [HBd.out]
      rintro e w1 ⟨rfl, hb1⟩
      have HB1 : Hid (Below w.heap.size w w1) := below_trans_of (by (repeat (first | with_reducible exact Below.refl _ _ | with_reducible refine below_drewN_of ?_ _ | with_reducible refine below_alloc_of ?_ _ | with_reducible refine below_set_of ?_ _ _ _ (by simp) | with_reducible assumption | exact ⟨rfl, rfl, rfl, Nat.le_refl _, fun _ _ => rfl⟩))) hb1
      have hbx1 : ∀ j, w1.cell? ⟨w.heap.size, j, none⟩ = (#[.bool false, .slice (some ⟨bb, oo, none⟩) lh ch, .bool sum, .int .i64 bound, .slice ob lb cb, .slice ow lw cw] : Array Value)[j]? := fun j => (oldCell hb1 w.heap.size j (by simp only [World.size_alloc]; omega)).trans (by simp only [World.cell?, heap_alloc, World.size_alloc]; (repeat (first | rw [if_pos trivial] | rw [if_pos (by omega)] | rw [if_neg (by omega)])); rfl)
      have hbm1 : ∀ j, w1.cell? ⟨w.heap.size + 1, j, none⟩ = (#[.slice oa len cap] : Array Value)[j]? := fun j => (oldCell hb1 (w.heap.size + 1) j (by simp only [World.size_alloc]; omega)).trans (by simp only [World.cell?, heap_alloc, World.size_alloc]; (repeat (first | rw [if_pos trivial] | rw [if_pos (by omega)] | rw [if_neg (by omega)])); rfl)
      have hbr1 : ∀ j, w1.cell? ⟨w.heap.size + 2, j, none⟩ = (#[.int .i64 0, .int .u8 0, .int .i64 0] : Array Value)[j]? := fun j => (oldCell hb1 (w.heap.size + 2) j (by simp)).trans (by simp only [World.cell?, heap_alloc, World.size_alloc]; (repeat (first | rw [if_pos trivial] | rw [if_pos (by omega)] | rw [if_neg (by omega)])); rfl)
      have hfr1 : ∀ j, w1.frozen? ⟨w.heap.size + 2, j, none⟩ = false := fun j => (oldFrozen hb1 (w.heap.size + 2) j (by simp)).trans (by simp only [World.frozen?, heap_alloc, World.size_alloc]; (repeat (first | rw [if_pos trivial] | rw [if_pos (by omega)] | rw [if_neg (by omega)])); rfl)
      have hs1 := hb1.size
      simp only [World.size_alloc] at hs1
      clear hb1
      go_wp2_with fail
      refine (HB.out _ HB1.out).mono ?_
      rw [HBd.out]
      rintro e w2 ⟨rfl, hb2⟩
      have HB2 : Hid (Below w.heap.size w w2) := below_trans_of HB1.out hb2
      have hbx2 : ∀ j, w2.cell? ⟨w.heap.size, j, none⟩ = (#[.bool false, .slice (some ⟨bb, oo, none⟩) lh ch, .bool sum, .int .i64 bound, .slice ob lb cb, .slice ow lw cw] : Array Value)[j]? := fun j => (oldCell hb2 w.heap.size j (by omega)).trans (hbx1 j)
      have hbm2 : ∀ j, w2.cell? ⟨w.heap.size + 1, j, none⟩ = (#[.slice oa len cap] : Array Value)[j]? := fun j => (oldCell hb2 (w.heap.size + 1) j (by omega)).trans (hbm1 j)
      have hbr2 : ∀ j, w2.cell? ⟨w.heap.size + 2, j, none⟩ = (#[.int .i64 0, .int .u8 0, .int .i64 0] : Array Value)[j]? := fun j => (oldCell hb2 (w.heap.size + 2) j (by omega)).trans (hbr1 j)
      have hfr2 : ∀ j, w2.frozen? ⟨w.heap.size + 2, j, none⟩ = false := fun j => (oldFrozen hb2 (w.heap.size + 2) j (by omega)).trans (hfr1 j)
      have hs2 := hb2.size
      clear hb2 hbx1 hbm1 hbr1 hfr1
      go_wp2_with fail
      have hcz2 : w2.cell? ⟨bb, oo + i, none⟩ = some (.int .i64 L) := (HB2.out.cell (p := ⟨bb, oo + i, none⟩) (cell_lt hcz)).trans hcz
      have HFP : FnPred Tryz.prog (fun _ => True) w2 (.func (.func 118) #[] #[.pointer (some ⟨w.heap.size + 1, 0, none⟩)]) (inB m) := by
        refine ⟨118, _, rfl, Tryz.call118, fun W hW x hx => ?_⟩
        have h1 := (oldCell hW (w.heap.size + 1) 0 (by omega)).trans (hbm2 0)
        exact block2_any W x (w.heap.size + 1) oa len cap m h1 (hm.below (below_trans_of HB2.out hW))
      refine (indexFuncI_any _ _ _ _ head _ (inB m) (fun _ => True) (hh.below HB2.out) HFP (fun _ _ => trivial)).mono ?_
      rw [HF.out]
      rintro e w3 ⟨rfl, hb3⟩
      have hcz3 : w3.cell? ⟨bb, oo + i, none⟩ = some (.int .i64 L) := (hb3.cell (p := ⟨bb, oo + i, none⟩) (cell_lt hcz2)).trans hcz2
      have HB3 : Hid (Below w.heap.size w w3) := below_trans_of HB2.out hb3
      have hbx3 : ∀ j, w3.cell? ⟨w.heap.size, j, none⟩ = (#[.bool false, .slice (some ⟨bb, oo, none⟩) lh ch, .bool sum, .int .i64 bound, .slice ob lb cb, .slice ow lw cw] : Array Value)[j]? := fun j => (oldCell hb3 w.heap.size j (by omega)).trans (hbx2 j)
      have hbm3 : ∀ j, w3.cell? ⟨w.heap.size + 1, j, none⟩ = (#[.slice oa len cap] : Array Value)[j]? := fun j => (oldCell hb3 (w.heap.size + 1) j (by omega)).trans (hbm2 j)
      have hbr3 : ∀ j, w3.cell? ⟨w.heap.size + 2, j, none⟩ = (#[.int .i64 0, .int .u8 0, .int .i64 0] : Array Value)[j]? := fun j => (oldCell hb3 (w.heap.size + 2) j (by omega)).trans (hbr2 j)
      have hfr3 : ∀ j, w3.frozen? ⟨w.heap.size + 2, j, none⟩ = false := fun j => (oldFrozen hb3 (w.heap.size + 2) j (by omega)).trans (hfr2 j)
      have hs3 := hb3.size
      clear HFP hcz2 hb3 hbx2 hbm2 hbr2 hfr2
      go_wp2_with fail
      exact bodyPost_ret (v := .agg #[.int .i64 0, .int .u8 3, .int .i64 L]) (by simp [results, Tryz.results59, go_sem, hbr3]) rfl ⟨rfl, below_set_of (below_set_of (below_set_of HB3.out _ _ _ (by omega)) _ _ _ (by omega)) _ _ _ (by omega)⟩
    · have hK' : K = 4 := by rw [hK]; simp [blockK, hbody, hch]
      have hL' : L = 0 := by rw [hL]; simp [blockL, hbody, hch]
      subst hK' hL'
      obtain ⟨choice, head, sum, bound, body, ws⟩ := r
      simp only at hch hh hb hw hr HB HL ⊢
      subst hch
      have HBd := Lib.hid hbody
      clear hK hL hbody hok hl hs
      go_enter Tryz.func59, Tryz.ntmps59
      go_wp2_with fail
      refine (HB.out _ (by (repeat (first | with_reducible exact Below.refl _ _ | with_reducible refine below_drewN_of ?_ _ | with_reducible refine below_alloc_of ?_ _ | with_reducible refine below_set_of ?_ _ _ _ (by simp) | with_reducible assumption | exact ⟨rfl, rfl, rfl, Nat.le_refl _, fun _ _ => rfl⟩)))).mono ?_
      rw [HBd.out]
      rintro e w1 ⟨rfl, hb1⟩
      have HB1 : Hid (Below w.heap.size w w1) := below_trans_of (by (repeat (first | with_reducible exact Below.refl _ _ | with_reducible refine below_drewN_of ?_ _ | with_reducible refine below_alloc_of ?_ _ | with_reducible refine below_set_of ?_ _ _ _ (by simp) | with_reducible assumption | exact ⟨rfl, rfl, rfl, Nat.le_refl _, fun _ _ => rfl⟩))) hb1
      have hbx1 : ∀ j, w1.cell? ⟨w.heap.size, j, none⟩ = (#[.bool true, .slice oh lh ch, .bool sum, .int .i64 bound, .slice ob lb cb, .slice ow lw cw] : Array Value)[j]? := fun j => (oldCell hb1 w.heap.size j (by simp only [World.size_alloc]; omega)).trans (by simp only [World.cell?, heap_alloc, World.size_alloc]; (repeat (first | rw [if_pos trivial] | rw [if_pos (by omega)] | rw [if_neg (by omega)])); rfl)
      have hbm1 : ∀ j, w1.cell? ⟨w.heap.size + 1, j, none⟩ = (#[.slice oa len cap] : Array Value)[j]? := fun j => (oldCell hb1 (w.heap.size + 1) j (by simp only [World.size_alloc]; omega)).trans (by simp only [World.cell?, heap_alloc, World.size_alloc]; (repeat (first | rw [if_pos trivial] | rw [if_pos (by omega)] | rw [if_neg (by omega)])); rfl)
      have hbr1 : ∀ j, w1.cell? ⟨w.heap.size + 2, j, none⟩ = (#[.int .i64 0, .int .u8 0, .int .i64 0] : Array Value)[j]? := fun j => (oldCell hb1 (w.heap.size + 2) j (by simp)).trans (by simp only [World.cell?, heap_alloc, World.size_alloc]; (repeat (first | rw [if_pos trivial] | rw [if_pos (by omega)] | rw [if_neg (by omega)])); rfl)
      have hfr1 : ∀ j, w1.frozen? ⟨w.heap.size + 2, j, none⟩ = false := fun j => (oldFrozen hb1 (w.heap.size + 2) j (by simp)).trans (by simp only [World.frozen?, heap_alloc, World.size_alloc]; (repeat (first | rw [if_pos trivial] | rw [if_pos (by omega)] | rw [if_neg (by omega)])); rfl)
      have hs1 := hb1.size
      simp only [World.size_alloc] at hs1
      clear hb1
      go_wp2_with fail
      refine (HB.out _ HB1.out).mono ?_
      rw [HBd.out]
      rintro e w2 ⟨rfl, hb2⟩
      have HB2 : Hid (Below w.heap.size w w2) := below_trans_of HB1.out hb2
      have hbx2 : ∀ j, w2.cell? ⟨w.heap.size, j, none⟩ = (#[.bool true, .slice oh lh ch, .bool sum, .int .i64 bound, .slice ob lb cb, .slice ow lw cw] : Array Value)[j]? := fun j => (oldCell hb2 w.heap.size j (by omega)).trans (hbx1 j)
      have hbm2 : ∀ j, w2.cell? ⟨w.heap.size + 1, j, none⟩ = (#[.slice oa len cap] : Array Value)[j]? := fun j => (oldCell hb2 (w.heap.size + 1) j (by omega)).trans (hbm1 j)
      have hbr2 : ∀ j, w2.cell? ⟨w.heap.size + 2, j, none⟩ = (#[.int .i64 0, .int .u8 0, .int .i64 0] : Array Value)[j]? := fun j => (oldCell hb2 (w.heap.size + 2) j (by omega)).trans (hbr1 j)
      have hfr2 : ∀ j, w2.frozen? ⟨w.heap.size + 2, j, none⟩ = false := fun j => (oldFrozen hb2 (w.heap.size + 2) j (by omega)).trans (hfr1 j)
      have hs2 := hb2.size
      clear hb2 hbx1 hbm1 hbr1 hfr1
      go_wp2_with fail
      exact bodyPost_ret (v := .agg #[.int .i64 0, .int .u8 4, .int .i64 0]) (by simp [results, Tryz.results59, go_sem, hbr2]) rfl ⟨rfl, below_set_of (below_set_of (below_set_of HB2.out _ _ _ (by omega)) _ _ _ (by omega)) _ _ _ (by omega)⟩
end Go.Proofs.YtaemfafnmhndiaaGreatDoor
namespace Go.Proofs.YtaemfafnmhndiaaGreatDoor
open Go.RowKit Go.Maps Go.WideMaps Go.Sort

structure Blk where
  rule : Int
  kind : Int
  lit : Int
  deriving DecidableEq, Inhabited
def cellsB (y : Blk) : List Value := [.int .i64 y.rule, .int .u8 y.kind, .int .i64 y.lit]
def OkBlk (y : Blk) : Prop := I64 y.rule ∧ (0 ≤ y.kind ∧ y.kind ≤ 255) ∧ I64 y.lit
/-- An element of a list of blocks: three cells. -/
def RBlk (_ : World) (cs : List Value) (y : Blk) : Prop := cs = cellsB y ∧ OkBlk y
theorem RBlk.kept : Kept RBlk := fun _ _ _ _ h _ => h
abbrev IsBlks := IsRow 3 RBlk
theorem IsBlks.below {w w' : World} {oa : Option Addr} {len : Nat} {l : List Blk} (h : IsBlks w oa len l) (hb : Below w.heap.size w w') : IsBlks w' oa len l :=
  IsRow.below RBlk.kept h hb
theorem IsBlks.at_ {w : World} {oa : Option Addr} {len k : Nat} {l : List Blk} (h : IsBlks w oa len l) (hk : k < len) :
    ∃ (b off : Nat) (y : Blk), oa = some ⟨b, off, none⟩ ∧ b < w.heap.size ∧
      w.cell? ⟨b, off + k * 3, none⟩ = some (.int .i64 y.rule) ∧ w.cell? ⟨b, off + k * 3 + 1, none⟩ = some (.int .u8 y.kind) ∧ w.cell? ⟨b, off + k * 3 + 2, none⟩ = some (.int .i64 y.lit) ∧
      OkBlk y ∧ Hid (l.drop k = y :: l.drop (k + 1)) ∧ Hid (l[k]? = some y) := by
  obtain ⟨b, off, h1, hlt, h3⟩ := h.cells (by omega)
  have hl : k < l.length := by rw [h.hlen]; exact hk
  obtain ⟨cs, _, hr, hc⟩ := h3 k l[k] (List.getElem?_eq_getElem hl)
  obtain ⟨rfl, i1⟩ := hr
  exact ⟨b, off, l[k], h1, hlt, by simpa [Nat.add_assoc, cellsB] using hc 0 (by omega), by simpa [Nat.add_assoc, cellsB] using hc 1 (by omega), by simpa [Nat.add_assoc, cellsB] using hc 2 (by omega),
    i1, List.drop_eq_getElem_cons hl, List.getElem?_eq_getElem hl⟩
def OwnB (w : World) (base : Nat) (oa : Option Addr) (n cap : Nat) (l : List Blk) : Prop :=
  w.ownsRow base 65 3 (.slice oa n cap) n (l.flatMap cellsB) ∧ l.length = n ∧ (∀ x ∈ l, OkBlk x) ∧ n * 3 ≤ 17592186044416
theorem OwnB.blks {w : World} {base : Nat} {oa : Option Addr} {n cap : Nat} {l : List Blk} (h : OwnB w base oa n cap l) : IsBlks w oa n l := by
  obtain ⟨h1, h2, h3, h4⟩ := h
  obtain ⟨oa', cap', hv, hr⟩ := IsRow.of_own (R := RBlk) cellsB (by decide) h1 h2 (fun _ _ => rfl) (fun x hx => ⟨rfl, h3 x hx⟩) h4
  obtain ⟨rfl, _⟩ : oa = oa' ∧ cap = cap' := by simpa using hv
  exact hr
theorem OwnB.below {w w' : World} {base : Nat} {oa : Option Addr} {n cap : Nat} {l : List Blk} (h : OwnB w base oa n cap l) (hb : Below w.heap.size w w') : OwnB w' base oa n cap l :=
  ⟨own_below h.1 hb fun g hg => (h.1.lt g hg).2, h.2⟩
theorem OwnB.nil_ (w : World) (base : Nat) : OwnB w base none 0 0 [] := ⟨⟨rfl, .inl ⟨rfl, rfl⟩⟩, rfl, by simp, by omega⟩
theorem infoBlk : (Tryz.prog.info? 65).map (fun i => (i.zero, i.size, i.bytes)) = some (some (.agg #[.int .i64 0, .int .u8 0, .int .i64 0]), 3, 24) := by kernel_rfl
theorem cellsB_one (y : Blk) : ∀ u ∈ cellsB y, u.oneCell' = true := by
  intro u hu
  simp [cellsB] at hu
  rcases hu with rfl | rfl | rfl <;> rfl
theorem wpList_append_blk {w : World} {ops : Array Oper} {rest : List Oper} {o : Oper} {a : Act} {Q : Exit → Act → World → Prop} (hgd : o.guard = none) (s x : Operand)
    (ho : o.op = .call { callee := .builtin .append, args := #[s, x], argTypes := #[41, 41] })
    (base : Nat) (oa : Option Addr) (n cap : Nat) (l : List Blk) (y : Blk) (hs : a.eval s = .slice oa n cap) (hown : OwnB w base oa n cap l) (ad : Addr) (c : Nat) (hx : a.eval x = .slice (some ad) 1 c)
    (hcells : ∀ j u, (cellsB y)[j]? = some u → w.cell? (ad.add j) = some u) (hy : OkBlk y) (hn : n ≤ 5000000) (hbase : base ≤ w.heap.size)
    (h : ∀ oa' cap' w', OwnB w' base oa' (n + 1) cap' (l ++ [y]) → w.grownBy w' (Value.slice oa n cap).ownBlock → wpList Tryz.prog ops Q rest (a.put o.dst (.slice oa' (n + 1) cap')) w') : wpList Tryz.prog ops Q (o :: rest) a w := by
  obtain ⟨i, hi, hz0, hz1, hz2⟩ := info_parts infoBlk
  obtain ⟨ho1, ho2, ho3, ho4⟩ := hown
  refine wpList_append_own w hgd s x 41 ho base 65 i _ 3 24 Tryz.underlying41 hi hz0 hz1 hz2 rfl (by decide) (.slice oa n cap) n (l.flatMap cellsB) hs ho1 ad 1 c (cellsB y) hx rfl hcells (cellsB_one y) (by unfold maxLen; omega) (by omega) hbase ?_
  intro v' w' hown' hgrow _
  obtain ⟨oa', cap', rfl⟩ := own_form hown'
  refine h oa' cap' w' ⟨?_, by simp [ho2], ?_, by omega⟩ hgrow
  · rw [List.flatMap_append, List.flatMap_cons, List.flatMap_nil, List.append_nil]; exact hown'
  · intro z hz
    rcases List.mem_append.1 hz with hz | hz
    · exact ho3 z hz
    · rw [List.mem_singleton.1 hz]; exact hy

def blkGo (m : List Int) (a : Int) : Int → List GRule → List Blk
  | _, [] => []
  | k, r :: l => (if inB r.head a then [⟨k, blockK r m, blockL r m⟩] else []) ++ blkGo m a (k + 1) l
def blocksErr (p : GProg) (m : List Int) (a : Int) : Int := if explainErr p m ≠ 0 then explainErr p m else if a < 1 ∨ p.n < a ∨ inB m a = true then 2 else 0
def blocksL (p : GProg) (m : List Int) (a : Int) : List Blk := if blocksErr p m a ≠ 0 then [] else blkGo m a 0 p.rules
def RetBlks (w : World) (l : List Blk) (err : Int) (e : Ending) (w' : World) : Prop :=
  ∃ ob lb cb, e = .returned (.tuple #[.slice ob lb cb, .int .i64 err]) ∧ IsBlks w' ob lb l ∧ Below w.heap.size w w'

theorem blockK_in (r : GRule) (m : List Int) : 0 ≤ blockK r m ∧ blockK r m ≤ 255 := by unfold blockK; split <;> split <;> omega
theorem getD_64 {l : List Int} (h : ∀ x ∈ l, I64 x) (i : Nat) : I64 (l.getD i 0) := by
  rw [List.getD_eq_getElem?_getD]
  cases e : l[i]? with
  | none => exact ⟨by decide, by decide⟩
  | some x => exact h x (List.mem_of_getElem? e)
theorem blockL_64 {r : GRule} (m : List Int) (h1 : ∀ x ∈ r.head, I64 x) (h2 : ∀ x ∈ r.body, I64 x) : I64 (blockL r m) := by
  have z : I64 0 := ⟨by decide, by decide⟩
  unfold blockL
  split <;> split <;> first | exact z | exact getD_64 h1 _ | exact getD_64 h2 _
theorem rules_good {p : GProg} {m : List Int} (he : explainErr p m = 0) : ∀ r ∈ p.rules, OkBody r ∧ OkLits r ∧ satB (inB m) r = true := by
  obtain ⟨hn0, hn1, hfe, hat⟩ := explain_ok he
  have hsat : p.rules.any (fun r => !satB (inB m) r) = false := by
    have h1 : modelsB p m = true := by
      unfold explainErr at he
      cases e : modelsB p m
      · by_cases c : checkErr p m = 0
        · rw [if_pos ⟨c, e⟩] at he; omega
        · rw [if_neg (fun d => c d.1)] at he; exact absurd he c
      · rfl
    simp only [modelsB, Bool.and_eq_true, brokenI] at h1
    rw [← firstI_ge _ _ 0 (Int.le_refl 0)]
    have h2 := of_decide_eq_true h1.2
    simpa using h2
  intro r hr
  have hk := okBody_of hn0 (rules_ok hfe r hr)
  have hrl := rules_ok hfe r hr
  refine ⟨hk.1, ⟨?_, fun x hx => (hk.2.2 x hx).2.2⟩, ?_⟩
  · refine lits_few hn0 hn1 ?_
    unfold ruleErr at hrl
    split at hrl
    · omega
    · split at hrl
      · omega
      · split at hrl
        · omega
        · rename_i c; simpa using c
  · cases e : satB (inB m) r
    · rw [List.any_eq_false] at hsat
      have := hsat r hr
      simp [e] at this
    · rfl
end Go.Proofs.YtaemfafnmhndiaaGreatDoor
