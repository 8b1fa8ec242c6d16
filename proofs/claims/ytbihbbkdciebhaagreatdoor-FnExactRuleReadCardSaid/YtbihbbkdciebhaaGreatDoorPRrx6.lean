/- Plain Lean functions of a law's Go functions, their contracts, by a program of this session (wip/pr.py over the kit's print). -/
import Derived.Test.YtbihbbkdciebhaaGreatDoorPRrx0
import Derived.Test.YtbihbbkdciebhaaGreatDoorPRrx3
import Derived.Test.YtbihbbkdciebhaaGreatDoorPRrx5
namespace Go.Proofs.YtbihbbkdciebhaaGreatDoor.Gv
open Go.RowKit Go.Proofs.YtbihbbkdciebhaaGreatDoorW.PrintWords Go.Proofs.YtbihbbkdciebhaaGreatDoorW.PrintLast
theorem bb {w w1 w2 : World} {g : Nat} {o : Obj} (h : w.heap[g]? = some o) (hb : Below w1.heap.size w1 w2) (h1 : w.heap[g]? = some o → w1.heap[g]? = some o := by intro h_; (with_reducible repeat (first | refine blk_drewN ?_ _ | refine blk_drew ?_ | refine blk_alloc ?_ _)); exact h_) : w2.heap[g]? = some o := blk_below (h1 h) hb
theorem kb0 {w w' : World} {g : Nat} {o : Obj} (h : w.heap[g]? = some o) (h1 : w.heap[g]? = some o → w'.heap[g]? = some o := by intro h_; (with_reducible repeat (first | refine blk_drewN ?_ _ | refine blk_drew ?_ | refine blk_alloc ?_ _)); (with_reducible exact h_)) : w'.heap[g]? = some o := h1 h
theorem kb1 {w : World} {g i n : Nat} {u : Value} {t : TypeId} {cs : Array Value} (h : w.heap[g]? = some (.cells cs t (0, 0))) : ((w.setCell ⟨g, i, none⟩ u).drewN n).heap[g]? = some (.cells (cs.setIfInBounds i u) t (0, 0)) := blk_drewN (blk_put h i u rfl) n
end Go.Proofs.YtbihbbkdciebhaaGreatDoor.Gv
namespace Go.Proofs.YtbihbbkdciebhaaGreatDoor.PRr
open Go.RowKit Go.Proofs.YtbihbbkdciebhaaGreatDoorW.PrintWords Go.Proofs.YtbihbbkdciebhaaGreatDoorW.PrintLast Go.Proofs.YtbihbbkdciebhaaGreatDoorW.PrintMore
attribute [local go_sem] max2_int min2_int max_two min_two max_three min_three max_four min_four   -- for this text's walks alone
set_option linter.unusedVariables false
set_option linter.unusedSimpArgs false

/-! ### spec_RuleText: function 12 -/
def spec_RuleText.j0 : Nat → ByteArray → Int → Int → Int → Int → Int → Int → Int → Int → Int → Int → Int → Int → Int → Int → Int → Int → Int → Int → Int → Int → Int → Option (ByteArray)
 | 0, _, _, _, _, _, _, _, _, _, _, _, _, _, _, _, _, _, _, _, _, _, _ => none
 | k + 1, x3, x310000, x310001, x310002, x310003, x310004, x310005, x310006, x310007, x310008, x310009, x310010, x310011, x310012, x310013, x310014, x310015, x310016, x310017, x310018, x310019, x310020 => (spec_NumText.f k x310000).bind fun t312 => (if t312.size + 6 ≤ 9223372036854775807 then ((spec_PrefixText.f k x310001 x310002 x310003 x310004 x310005 x310006).bind fun t313 => (if (t312 ++ (⟨#[32, 102, 114, 111, 109, 32]⟩ : ByteArray)).size + t313.size ≤ 9223372036854775807 then (if ((t312 ++ (⟨#[32, 102, 114, 111, 109, 32]⟩ : ByteArray)) ++ t313).size + 4 ≤ 9223372036854775807 then ((spec_PrefixText.f k x310007 x310008 x310009 x310010 x310011 x310012).bind fun t314 => (if (((t312 ++ (⟨#[32, 102, 114, 111, 109, 32]⟩ : ByteArray)) ++ t313) ++ (⟨#[32, 116, 111, 32]⟩ : ByteArray)).size + t314.size ≤ 9223372036854775807 then (if ((((t312 ++ (⟨#[32, 102, 114, 111, 109, 32]⟩ : ByteArray)) ++ t313) ++ (⟨#[32, 116, 111, 32]⟩ : ByteArray)) ++ t314).size + 7 ≤ 9223372036854775807 then (if (((((t312 ++ (⟨#[32, 102, 114, 111, 109, 32]⟩ : ByteArray)) ++ t313) ++ (⟨#[32, 116, 111, 32]⟩ : ByteArray)) ++ t314) ++ (⟨#[32, 112, 114, 111, 116, 111, 32]⟩ : ByteArray)).size + x3.size ≤ 9223372036854775807 then (if ((((((t312 ++ (⟨#[32, 102, 114, 111, 109, 32]⟩ : ByteArray)) ++ t313) ++ (⟨#[32, 116, 111, 32]⟩ : ByteArray)) ++ t314) ++ (⟨#[32, 112, 114, 111, 116, 111, 32]⟩ : ByteArray)) ++ x3).size + 7 ≤ 9223372036854775807 then ((spec_NumText.f k x310014).bind fun t315 => (if (((((((t312 ++ (⟨#[32, 102, 114, 111, 109, 32]⟩ : ByteArray)) ++ t313) ++ (⟨#[32, 116, 111, 32]⟩ : ByteArray)) ++ t314) ++ (⟨#[32, 112, 114, 111, 116, 111, 32]⟩ : ByteArray)) ++ x3) ++ (⟨#[32, 115, 112, 111, 114, 116, 32]⟩ : ByteArray)).size + t315.size ≤ 9223372036854775807 then (if ((((((((t312 ++ (⟨#[32, 102, 114, 111, 109, 32]⟩ : ByteArray)) ++ t313) ++ (⟨#[32, 116, 111, 32]⟩ : ByteArray)) ++ t314) ++ (⟨#[32, 112, 114, 111, 116, 111, 32]⟩ : ByteArray)) ++ x3) ++ (⟨#[32, 115, 112, 111, 114, 116, 32]⟩ : ByteArray)) ++ t315).size + 1 ≤ 9223372036854775807 then ((spec_NumText.f k x310015).bind fun t316 => (if (((((((((t312 ++ (⟨#[32, 102, 114, 111, 109, 32]⟩ : ByteArray)) ++ t313) ++ (⟨#[32, 116, 111, 32]⟩ : ByteArray)) ++ t314) ++ (⟨#[32, 112, 114, 111, 116, 111, 32]⟩ : ByteArray)) ++ x3) ++ (⟨#[32, 115, 112, 111, 114, 116, 32]⟩ : ByteArray)) ++ t315) ++ (⟨#[45]⟩ : ByteArray)).size + t316.size ≤ 9223372036854775807 then (if ((((((((((t312 ++ (⟨#[32, 102, 114, 111, 109, 32]⟩ : ByteArray)) ++ t313) ++ (⟨#[32, 116, 111, 32]⟩ : ByteArray)) ++ t314) ++ (⟨#[32, 112, 114, 111, 116, 111, 32]⟩ : ByteArray)) ++ x3) ++ (⟨#[32, 115, 112, 111, 114, 116, 32]⟩ : ByteArray)) ++ t315) ++ (⟨#[45]⟩ : ByteArray)) ++ t316).size + 7 ≤ 9223372036854775807 then ((spec_NumText.f k x310016).bind fun t317 => (if (((((((((((t312 ++ (⟨#[32, 102, 114, 111, 109, 32]⟩ : ByteArray)) ++ t313) ++ (⟨#[32, 116, 111, 32]⟩ : ByteArray)) ++ t314) ++ (⟨#[32, 112, 114, 111, 116, 111, 32]⟩ : ByteArray)) ++ x3) ++ (⟨#[32, 115, 112, 111, 114, 116, 32]⟩ : ByteArray)) ++ t315) ++ (⟨#[45]⟩ : ByteArray)) ++ t316) ++ (⟨#[32, 100, 112, 111, 114, 116, 32]⟩ : ByteArray)).size + t317.size ≤ 9223372036854775807 then (if ((((((((((((t312 ++ (⟨#[32, 102, 114, 111, 109, 32]⟩ : ByteArray)) ++ t313) ++ (⟨#[32, 116, 111, 32]⟩ : ByteArray)) ++ t314) ++ (⟨#[32, 112, 114, 111, 116, 111, 32]⟩ : ByteArray)) ++ x3) ++ (⟨#[32, 115, 112, 111, 114, 116, 32]⟩ : ByteArray)) ++ t315) ++ (⟨#[45]⟩ : ByteArray)) ++ t316) ++ (⟨#[32, 100, 112, 111, 114, 116, 32]⟩ : ByteArray)) ++ t317).size + 1 ≤ 9223372036854775807 then ((spec_NumText.f k x310017).bind fun t318 => (if (((((((((((((t312 ++ (⟨#[32, 102, 114, 111, 109, 32]⟩ : ByteArray)) ++ t313) ++ (⟨#[32, 116, 111, 32]⟩ : ByteArray)) ++ t314) ++ (⟨#[32, 112, 114, 111, 116, 111, 32]⟩ : ByteArray)) ++ x3) ++ (⟨#[32, 115, 112, 111, 114, 116, 32]⟩ : ByteArray)) ++ t315) ++ (⟨#[45]⟩ : ByteArray)) ++ t316) ++ (⟨#[32, 100, 112, 111, 114, 116, 32]⟩ : ByteArray)) ++ t317) ++ (⟨#[45]⟩ : ByteArray)).size + t318.size ≤ 9223372036854775807 then (if ((((((((((((((t312 ++ (⟨#[32, 102, 114, 111, 109, 32]⟩ : ByteArray)) ++ t313) ++ (⟨#[32, 116, 111, 32]⟩ : ByteArray)) ++ t314) ++ (⟨#[32, 112, 114, 111, 116, 111, 32]⟩ : ByteArray)) ++ x3) ++ (⟨#[32, 115, 112, 111, 114, 116, 32]⟩ : ByteArray)) ++ t315) ++ (⟨#[45]⟩ : ByteArray)) ++ t316) ++ (⟨#[32, 100, 112, 111, 114, 116, 32]⟩ : ByteArray)) ++ t317) ++ (⟨#[45]⟩ : ByteArray)) ++ t318).size + 8 ≤ 9223372036854775807 then ((spec_NumText.f k x310018).bind fun t319 => (if (((((((((((((((t312 ++ (⟨#[32, 102, 114, 111, 109, 32]⟩ : ByteArray)) ++ t313) ++ (⟨#[32, 116, 111, 32]⟩ : ByteArray)) ++ t314) ++ (⟨#[32, 112, 114, 111, 116, 111, 32]⟩ : ByteArray)) ++ x3) ++ (⟨#[32, 115, 112, 111, 114, 116, 32]⟩ : ByteArray)) ++ t315) ++ (⟨#[45]⟩ : ByteArray)) ++ t316) ++ (⟨#[32, 100, 112, 111, 114, 116, 32]⟩ : ByteArray)) ++ t317) ++ (⟨#[45]⟩ : ByteArray)) ++ t318) ++ (⟨#[32, 116, 101, 110, 97, 110, 116, 32]⟩ : ByteArray)).size + t319.size ≤ 9223372036854775807 then (if ((((((((((((((((t312 ++ (⟨#[32, 102, 114, 111, 109, 32]⟩ : ByteArray)) ++ t313) ++ (⟨#[32, 116, 111, 32]⟩ : ByteArray)) ++ t314) ++ (⟨#[32, 112, 114, 111, 116, 111, 32]⟩ : ByteArray)) ++ x3) ++ (⟨#[32, 115, 112, 111, 114, 116, 32]⟩ : ByteArray)) ++ t315) ++ (⟨#[45]⟩ : ByteArray)) ++ t316) ++ (⟨#[32, 100, 112, 111, 114, 116, 32]⟩ : ByteArray)) ++ t317) ++ (⟨#[45]⟩ : ByteArray)) ++ t318) ++ (⟨#[32, 116, 101, 110, 97, 110, 116, 32]⟩ : ByteArray)) ++ t319).size + 8 ≤ 9223372036854775807 then ((spec_NumText.f k x310019).bind fun t320 => (if (((((((((((((((((t312 ++ (⟨#[32, 102, 114, 111, 109, 32]⟩ : ByteArray)) ++ t313) ++ (⟨#[32, 116, 111, 32]⟩ : ByteArray)) ++ t314) ++ (⟨#[32, 112, 114, 111, 116, 111, 32]⟩ : ByteArray)) ++ x3) ++ (⟨#[32, 115, 112, 111, 114, 116, 32]⟩ : ByteArray)) ++ t315) ++ (⟨#[45]⟩ : ByteArray)) ++ t316) ++ (⟨#[32, 100, 112, 111, 114, 116, 32]⟩ : ByteArray)) ++ t317) ++ (⟨#[45]⟩ : ByteArray)) ++ t318) ++ (⟨#[32, 116, 101, 110, 97, 110, 116, 32]⟩ : ByteArray)) ++ t319) ++ (⟨#[32, 119, 101, 105, 103, 104, 116, 32]⟩ : ByteArray)).size + t320.size ≤ 9223372036854775807 then (if ((((((((((((((((((t312 ++ (⟨#[32, 102, 114, 111, 109, 32]⟩ : ByteArray)) ++ t313) ++ (⟨#[32, 116, 111, 32]⟩ : ByteArray)) ++ t314) ++ (⟨#[32, 112, 114, 111, 116, 111, 32]⟩ : ByteArray)) ++ x3) ++ (⟨#[32, 115, 112, 111, 114, 116, 32]⟩ : ByteArray)) ++ t315) ++ (⟨#[45]⟩ : ByteArray)) ++ t316) ++ (⟨#[32, 100, 112, 111, 114, 116, 32]⟩ : ByteArray)) ++ t317) ++ (⟨#[45]⟩ : ByteArray)) ++ t318) ++ (⟨#[32, 116, 101, 110, 97, 110, 116, 32]⟩ : ByteArray)) ++ t319) ++ (⟨#[32, 119, 101, 105, 103, 104, 116, 32]⟩ : ByteArray)) ++ t320).size + 7 ≤ 9223372036854775807 then ((spec_NumText.f k x310020).bind fun t321 => (if (((((((((((((((((((t312 ++ (⟨#[32, 102, 114, 111, 109, 32]⟩ : ByteArray)) ++ t313) ++ (⟨#[32, 116, 111, 32]⟩ : ByteArray)) ++ t314) ++ (⟨#[32, 112, 114, 111, 116, 111, 32]⟩ : ByteArray)) ++ x3) ++ (⟨#[32, 115, 112, 111, 114, 116, 32]⟩ : ByteArray)) ++ t315) ++ (⟨#[45]⟩ : ByteArray)) ++ t316) ++ (⟨#[32, 100, 112, 111, 114, 116, 32]⟩ : ByteArray)) ++ t317) ++ (⟨#[45]⟩ : ByteArray)) ++ t318) ++ (⟨#[32, 116, 101, 110, 97, 110, 116, 32]⟩ : ByteArray)) ++ t319) ++ (⟨#[32, 119, 101, 105, 103, 104, 116, 32]⟩ : ByteArray)) ++ t320) ++ (⟨#[32, 99, 104, 97, 105, 110, 32]⟩ : ByteArray)).size + t321.size ≤ 9223372036854775807 then (some ((((((((((((((((((((t312 ++ (⟨#[32, 102, 114, 111, 109, 32]⟩ : ByteArray)) ++ t313) ++ (⟨#[32, 116, 111, 32]⟩ : ByteArray)) ++ t314) ++ (⟨#[32, 112, 114, 111, 116, 111, 32]⟩ : ByteArray)) ++ x3) ++ (⟨#[32, 115, 112, 111, 114, 116, 32]⟩ : ByteArray)) ++ t315) ++ (⟨#[45]⟩ : ByteArray)) ++ t316) ++ (⟨#[32, 100, 112, 111, 114, 116, 32]⟩ : ByteArray)) ++ t317) ++ (⟨#[45]⟩ : ByteArray)) ++ t318) ++ (⟨#[32, 116, 101, 110, 97, 110, 116, 32]⟩ : ByteArray)) ++ t319) ++ (⟨#[32, 119, 101, 105, 103, 104, 116, 32]⟩ : ByteArray)) ++ t320) ++ (⟨#[32, 99, 104, 97, 105, 110, 32]⟩ : ByteArray)) ++ t321)) else (none))) else (none)) else (none))) else (none)) else (none))) else (none)) else (none))) else (none)) else (none))) else (none)) else (none))) else (none)) else (none))) else (none)) else (none)) else (none)) else (none))) else (none)) else (none))) else (none))
def spec_RuleText.f (k : Nat) (a0_0 : Int) (a0_1 : Int) (a0_2 : Int) (a0_3 : Int) (a0_4 : Int) (a0_5 : Int) (a0_6 : Int) (a0_7 : Int) (a0_8 : Int) (a0_9 : Int) (a0_10 : Int) (a0_11 : Int) (a0_12 : Int) (a0_13 : Int) (a0_14 : Int) (a0_15 : Int) (a0_16 : Int) (a0_17 : Int) (a0_18 : Int) (a0_19 : Int) (a0_20 : Int) : Option (ByteArray) := (spec_RuleOk.f k a0_0 a0_1 a0_2 a0_3 a0_4 a0_5 a0_6 a0_7 a0_8 a0_9 a0_10 a0_11 a0_12 a0_13 a0_14 a0_15 a0_16 a0_17 a0_18 a0_19 a0_20).bind fun t310 => (if t310 = true then (if a0_13 ≥ 0 then ((spec_NumText.f k a0_13).bind fun t311 => (spec_RuleText.j0 k t311 a0_0 a0_1 a0_2 a0_3 a0_4 a0_5 a0_6 a0_7 a0_8 a0_9 a0_10 a0_11 a0_12 a0_13 a0_14 a0_15 a0_16 a0_17 a0_18 a0_19 a0_20)) else (spec_RuleText.j0 k (⟨#[97, 110, 121]⟩ : ByteArray) a0_0 a0_1 a0_2 a0_3 a0_4 a0_5 a0_6 a0_7 a0_8 a0_9 a0_10 a0_11 a0_12 a0_13 a0_14 a0_15 a0_16 a0_17 a0_18 a0_19 a0_20)) else (some (⟨#[]⟩ : ByteArray)))
def spec_RuleText.T6 : Bool × List (List Nat × List Nat) := (true, [([], []), ([0], [0]), ([1], [1]), ([2], [2]), ([], []), ([4], [4]), ([5, 2], [5]), ([3, 6], [3, 6]), ([7], [7]), ([], []), ([9], [9]), ([10, 6], [10]), ([8, 11], [8, 11]), ([12], [12]), ([], []), ([13, 14], [13, 14]), ([15, 11, 0, 1, 2, 3, 4, 5, 6, 7, 8, 9, 10, 11, 12, 13, 14, 15], [15])])
def spec_RuleText.B6 : List Nat := [0, 1, 3, 7, 0, 16, 55, 127, 255, 0, 512, 1655, 4095, 8191, 0, 32767, 65535]
theorem spec_RuleText.tab6 : rtab .any (opsOf Tryz.f12 6) = spec_RuleText.T6 := by kernel_rfl
theorem spec_RuleText.bits6 : waitsOk spec_RuleText.T6.2 spec_RuleText.B6 = true := by kernel_rfl
def spec_RuleText.T7 : Bool × List (List Nat × List Nat) := (true, [([], []), ([0], [0]), ([], []), ([2], [2]), ([3], [3]), ([1, 4], [1, 4]), ([5], [5]), ([], []), ([7], [7]), ([8, 4], [8]), ([6, 9], [6, 9]), ([10], [10]), ([], []), ([12], [12]), ([13, 9], [13]), ([11, 14], [11, 14]), ([15], [15]), ([], []), ([17], [17]), ([18, 14], [18]), ([16, 19], [16, 19]), ([20, 19, 0, 1, 2, 3, 4, 5, 6, 7, 8, 9, 10, 11, 12, 13, 14, 15, 16, 17, 18, 19, 20], [0, 20])])
def spec_RuleText.B7 : List Nat := [0, 1, 0, 4, 12, 31, 63, 0, 128, 412, 1023, 2047, 0, 4096, 13212, 32767, 65535, 0, 131072, 422812, 1048575, 2097151]
theorem spec_RuleText.tab7 : rtab .any (opsOf Tryz.f12 7) = spec_RuleText.T7 := by kernel_rfl
theorem spec_RuleText.bits7 : waitsOk spec_RuleText.T7.2 spec_RuleText.B7 = true := by kernel_rfl
def spec_RuleText.T8 : Bool × List (List Nat × List Nat) := (true, [([], []), ([0], [0]), ([], []), ([2], [2]), ([3], [3]), ([1, 4], [1, 4]), ([5], [5]), ([], []), ([7], [7]), ([8, 4], [8]), ([6, 9], [6, 9]), ([10], [10]), ([], []), ([12], [12]), ([13, 9], [13]), ([11, 14], [11, 14]), ([15, 14, 0, 1, 2, 3, 4, 5, 6, 7, 8, 9, 10, 11, 12, 13, 14, 15], [15])])
def spec_RuleText.B8 : List Nat := [0, 1, 0, 4, 12, 31, 63, 0, 128, 412, 1023, 2047, 0, 4096, 13212, 32767, 65535]
theorem spec_RuleText.tab8 : rtab .any (opsOf Tryz.f12 8) = spec_RuleText.T8 := by kernel_rfl
theorem spec_RuleText.bits8 : waitsOk spec_RuleText.T8.2 spec_RuleText.B8 = true := by kernel_rfl
set_option maxHeartbeats 8000000 in
set_option maxRecDepth 100000 in
theorem spec_RuleText.calls (k : Nat) (a0_0 : Int) (a0_1 : Int) (a0_2 : Int) (a0_3 : Int) (a0_4 : Int) (a0_5 : Int) (a0_6 : Int) (a0_7 : Int) (a0_8 : Int) (a0_9 : Int) (a0_10 : Int) (a0_11 : Int) (a0_12 : Int) (a0_13 : Int) (a0_14 : Int) (a0_15 : Int) (a0_16 : Int) (a0_17 : Int) (a0_18 : Int) (a0_19 : Int) (a0_20 : Int) (r : ByteArray) (w : World) (h : spec_RuleText.f k a0_0 a0_1 a0_2 a0_3 a0_4 a0_5 a0_6 a0_7 a0_8 a0_9 a0_10 a0_11 a0_12 a0_13 a0_14 a0_15 a0_16 a0_17 a0_18 a0_19 a0_20 = some r) :
  Calls Tryz.prog 12 #[.agg #[.int .i64 a0_0, .int .i64 a0_1, .int .i64 a0_2, .int .i64 a0_3, .int .i64 a0_4, .int .i64 a0_5, .int .i64 a0_6, .int .i64 a0_7, .int .i64 a0_8, .int .i64 a0_9, .int .i64 a0_10, .int .i64 a0_11, .int .i64 a0_12, .int .i64 a0_13, .int .i64 a0_14, .int .i64 a0_15, .int .i64 a0_16, .int .i64 a0_17, .int .i64 a0_18, .int .i64 a0_19, .int .i64 a0_20]] w fun e w' => e = .returned (.string r) ∧ Below w.heap.size w w' := by
 have hu27 := Tryz.underlying27
 have hu25 := Tryz.underlying25
 have HB := Gv.a0 (Below.refl w.heap.size w)
 have H : ((spec_RuleOk.f k a0_0 a0_1 a0_2 a0_3 a0_4 a0_5 a0_6 a0_7 a0_8 a0_9 a0_10 a0_11 a0_12 a0_13 a0_14 a0_15 a0_16 a0_17 a0_18 a0_19 a0_20).bind fun t310 => (if t310 = true then (if a0_13 ≥ 0 then ((spec_NumText.f k a0_13).bind fun t311 => (spec_RuleText.j0 k t311 a0_0 a0_1 a0_2 a0_3 a0_4 a0_5 a0_6 a0_7 a0_8 a0_9 a0_10 a0_11 a0_12 a0_13 a0_14 a0_15 a0_16 a0_17 a0_18 a0_19 a0_20)) else (spec_RuleText.j0 k (⟨#[97, 110, 121]⟩ : ByteArray) a0_0 a0_1 a0_2 a0_3 a0_4 a0_5 a0_6 a0_7 a0_8 a0_9 a0_10 a0_11 a0_12 a0_13 a0_14 a0_15 a0_16 a0_17 a0_18 a0_19 a0_20)) else (some (⟨#[]⟩ : ByteArray)))) = some r := h
 clear h
 replace H := Option.bind_eq_some_iff.mp H
 obtain ⟨t310, A20, H⟩ := H
 replace H : (if t310 = true then (if a0_13 ≥ 0 then ((spec_NumText.f k a0_13).bind fun t311 => (spec_RuleText.j0 k t311 a0_0 a0_1 a0_2 a0_3 a0_4 a0_5 a0_6 a0_7 a0_8 a0_9 a0_10 a0_11 a0_12 a0_13 a0_14 a0_15 a0_16 a0_17 a0_18 a0_19 a0_20)) else (spec_RuleText.j0 k (⟨#[97, 110, 121]⟩ : ByteArray) a0_0 a0_1 a0_2 a0_3 a0_4 a0_5 a0_6 a0_7 a0_8 a0_9 a0_10 a0_11 a0_12 a0_13 a0_14 a0_15 a0_16 a0_17 a0_18 a0_19 a0_20)) else (some (⟨#[]⟩ : ByteArray))) = some r := H
 have A2 := Gv.a0 A20
 clear A20
 by_cases c3 : t310 = true
 ·subst c3
  have H1 : (if a0_13 ≥ 0 then ((spec_NumText.f k a0_13).bind fun t311 => (spec_RuleText.j0 k t311 a0_0 a0_1 a0_2 a0_3 a0_4 a0_5 a0_6 a0_7 a0_8 a0_9 a0_10 a0_11 a0_12 a0_13 a0_14 a0_15 a0_16 a0_17 a0_18 a0_19 a0_20)) else (spec_RuleText.j0 k (⟨#[97, 110, 121]⟩ : ByteArray) a0_0 a0_1 a0_2 a0_3 a0_4 a0_5 a0_6 a0_7 a0_8 a0_9 a0_10 a0_11 a0_12 a0_13 a0_14 a0_15 a0_16 a0_17 a0_18 a0_19 a0_20)) = some r := by rw [if_pos rfl] at H; exact H
  clear H
  have H := H1
  clear H1
  have HC4 := Gv.a0 H
  clear H
  go_enter Tryz.func12, Tryz.ntmps12
  go_upto_if 10 with (first | ((with_reducible refine gate_dst (N := 1) rfl ?_); refine box_event ?hg (N := 1) ?hd (cs := #[.int .i64 a0_0, .int .i64 a0_1, .int .i64 a0_2, .int .i64 a0_3, .int .i64 a0_4, .int .i64 a0_5, .int .i64 a0_6, .int .i64 a0_7, .int .i64 a0_8, .int .i64 a0_9, .int .i64 a0_10, .int .i64 a0_11, .int .i64 a0_12, .int .i64 a0_13, .int .i64 a0_14, .int .i64 a0_15, .int .i64 a0_16, .int .i64 a0_17, .int .i64 a0_18, .int .i64 a0_19, .int .i64 a0_20]) (t := 27) ?hr ?_; (case hd => rfl); (case hg => rfl); (case hr => first | (go_simp; done) | (go_simp; rfl)); intro gb309 hg w5 hbox hb; have n0_ := Gv.a0 (below_step Gv.bw hb); have n1_ := Gv.a0 (hbox); have n2_ := Gv.a0 ((Gv.ble hg Gv.bw : w.heap.size ≤ gb309)); have n3_ := Gv.a0 ((Gv.ble hg Gv.bw : w.heap.size ≤ gb309)); clear HB; have HB := n0_; have BK309 := n1_; have GW309 := n2_; have GE309 := n3_; clear n0_ n1_ n2_ n3_; clear hb hbox hg; obtain ⟨hcz6_0, hcz6_1, hcz6_2, hcz6_3, hcz6_4, hcz6_5, hcz6_6, hcz6_7, hcz6_8, hcz6_9, hcz6_10, hcz6_11, hcz6_12, hcz6_13, hcz6_14, hcz6_15, hcz6_16, hcz6_17, hcz6_18, hcz6_19, hcz6_20⟩ := Gv.c21 BK309.out) | ((with_reducible refine gate_store (t := 27) (p := 1) rfl ?_); refine Gv.store_event rfl rfl rfl rfl rfl (Gv.kb BK309.out) (by kernel_rfl) rfl (by simp; and_intros <;> rfl) ?_; intro w5s hbox hoth hbel; have n0_ := Gv.a0 (hbox); have n1_ := Gv.a0 (hbel w Gv.bw GE309.out); clear BK309 HB; have BK309 := n0_; have HB := n1_; clear n0_ n1_ hbox hoth hbel; (try clear hcz6_0 hcz6_1 hcz6_2 hcz6_3 hcz6_4 hcz6_5 hcz6_6 hcz6_7 hcz6_8 hcz6_9 hcz6_10 hcz6_11 hcz6_12 hcz6_13 hcz6_14 hcz6_15 hcz6_16 hcz6_17 hcz6_18 hcz6_19 hcz6_20); obtain ⟨hcz6_0, hcz6_1, hcz6_2, hcz6_3, hcz6_4, hcz6_5, hcz6_6, hcz6_7, hcz6_8, hcz6_9, hcz6_10, hcz6_11, hcz6_12, hcz6_13, hcz6_14, hcz6_15, hcz6_16, hcz6_17, hcz6_18, hcz6_19, hcz6_20⟩ := Gv.c21 BK309.out) | ((with_reducible refine gate_callee (f := 11) rfl ?_); refine goesL_ (some 6) rfl rfl Tryz.func11 (by kernel_rfl) rfl #[.agg #[.int .i64 a0_0, .int .i64 a0_1, .int .i64 a0_2, .int .i64 a0_3, .int .i64 a0_4, .int .i64 a0_5, .int .i64 a0_6, .int .i64 a0_7, .int .i64 a0_8, .int .i64 a0_9, .int .i64 a0_10, .int .i64 a0_11, .int .i64 a0_12, .int .i64 a0_13, .int .i64 a0_14, .int .i64 a0_15, .int .i64 a0_16, .int .i64 a0_17, .int .i64 a0_18, .int .i64 a0_19, .int .i64 a0_20]] rfl Gv.lm ?_; (with_reducible refine (spec_RuleOk.calls k a0_0 a0_1 a0_2 a0_3 a0_4 a0_5 a0_6 a0_7 a0_8 a0_9 a0_10 a0_11 a0_12 a0_13 a0_14 a0_15 a0_16 a0_17 a0_18 a0_19 a0_20 true _ A2.out).mono ?_); rintro e w7 ⟨rfl, hb⟩; refine ⟨_, rfl, ?_⟩; have n0_ := Gv.a0 (Gv.bb BK309.out hb); have n1_ := Gv.a0 (below_step Gv.bw hb); clear BK309; clear HB; have BK309 := n0_; have HB := n1_; clear n0_ n1_; (try clear hb); (try clear hb2); (try clear hk); (try clear hi); obtain ⟨hcz8_0, hcz8_1, hcz8_2, hcz8_3, hcz8_4, hcz8_5, hcz8_6, hcz8_7, hcz8_8, hcz8_9, hcz8_10, hcz8_11, hcz8_12, hcz8_13, hcz8_14, hcz8_15, hcz8_16, hcz8_17, hcz8_18, hcz8_19, hcz8_20⟩ := Gv.c21 BK309.out) | ((with_reducible refine Gv.gate_load (t := 27) rfl ?_); (try (refine gate_guard (by rfl) ?_; dsimp only)); refine wpList_load_row rfl 27 _ rfl gb309 rfl 27 _ _ _ (by first | exact Gv.kb0 BK309.out | exact Gv.kb1 (Gv.kb0 BK309.out)) Tryz.underlying27 rfl (by kernel_rfl) ?_))
  (try simp only [Act.put, List.setIfInBounds_toArray, List.set_cons_zero, List.set_cons_succ])
  go_cut [3] (fun v3 wc => ∃ (kq : Nat) (x3_3 : ByteArray), v3 = .string x3_3 ∧ Aside0 (spec_RuleText.j0 kq x3_3 a0_0 a0_1 a0_2 a0_3 a0_4 a0_5 a0_6 a0_7 a0_8 a0_9 a0_10 a0_11 a0_12 a0_13 a0_14 a0_15 a0_16 a0_17 a0_18 a0_19 a0_20 = some r) ∧ Aside0 (kq ≤ k) ∧ Aside0 (wc.heap[gb309]? = some (.cells #[.int .i64 a0_0, .int .i64 a0_1, .int .i64 a0_2, .int .i64 a0_3, .int .i64 a0_4, .int .i64 a0_5, .int .i64 a0_6, .int .i64 a0_7, .int .i64 a0_8, .int .i64 a0_9, .int .i64 a0_10, .int .i64 a0_11, .int .i64 a0_12, .int .i64 a0_13, .int .i64 a0_14, .int .i64 a0_15, .int .i64 a0_16, .int .i64 a0_17, .int .i64 a0_18, .int .i64 a0_19, .int .i64 a0_20] 27 (0, 0))) ∧ Aside0 (Below w.heap.size w wc))
  case first =>
   have H := HC4.out
   clear HC4
   by_cases c9 : a0_13 ≥ 0
   ·rw [if_pos c9] at H
    have c9b0 : decide (0 ≤ a0_13) = true := decide_eq_true c9
    clear c9
    (first | rw [c9b0] | (simp only [i64_w, i32_w]; rw [c9b0]) | skip)
    replace H := Option.bind_eq_some_iff.mp H
    obtain ⟨t311, A100, H⟩ := H
    replace H : (spec_RuleText.j0 k t311 a0_0 a0_1 a0_2 a0_3 a0_4 a0_5 a0_6 a0_7 a0_8 a0_9 a0_10 a0_11 a0_12 a0_13 a0_14 a0_15 a0_16 a0_17 a0_18 a0_19 a0_20) = some r := H
    have A10 := Gv.a0 A100
    clear A100
    have H' := Gv.a0 H
    clear H
    obtain ⟨hcz11_0, hcz11_1, hcz11_2, hcz11_3, hcz11_4, hcz11_5, hcz11_6, hcz11_7, hcz11_8, hcz11_9, hcz11_10, hcz11_11, hcz11_12, hcz11_13, hcz11_14, hcz11_15, hcz11_16, hcz11_17, hcz11_18, hcz11_19, hcz11_20⟩ := Gv.c21 BK309.out
    go_wp2_with (first | ((with_reducible refine gate_callee (f := 22) rfl ?_); refine goesL_ (some 13) rfl rfl Tryz.func22 (by kernel_rfl) rfl #[.int .i64 a0_13] rfl Gv.lm ?_; (with_reducible refine (spec_NumText.calls k a0_13 t311 _ A10.out).mono ?_); rintro e w12 ⟨rfl, hb⟩; refine ⟨_, rfl, ?_⟩; have n0_ := Gv.a0 (Gv.bb BK309.out hb); have n1_ := Gv.a0 (below_step Gv.bw hb); clear BK309; clear HB; have BK309 := n0_; have HB := n1_; clear n0_ n1_; (try clear hb); (try clear hb2); (try clear hk); (try clear hi)) | ((with_reducible refine Gv.gate_load (t := 27) rfl ?_); (try (refine gate_guard (by rfl) ?_; dsimp only)); refine wpList_load_row rfl 27 _ rfl gb309 rfl 27 _ _ _ (by first | exact Gv.kb0 BK309.out | exact Gv.kb1 (Gv.kb0 BK309.out)) Tryz.underlying27 rfl (by kernel_rfl) ?_))
    go_meet
    case rel => exact ⟨_, (t311), Gv.rq, H', ⟨by first | omega | exact Nat.le_refl _⟩, ⟨by (with_reducible repeat (first | refine blk_drewN ?_ _ | refine blk_drew ?_ | refine blk_alloc ?_ _)); exact BK309.out⟩, ⟨Gv.bw⟩⟩
   ·rw [if_neg c9] at H
    have c9b0 : decide (0 ≤ a0_13) = false := decide_eq_false c9
    clear c9
    (first | rw [c9b0] | (simp only [i64_w, i32_w]; rw [c9b0]) | skip)
    have H' := Gv.a0 H
    clear H
    go_wp2_with (first | ((with_reducible refine Gv.gate_load (t := 27) rfl ?_); (try (refine gate_guard (by rfl) ?_; dsimp only)); refine wpList_load_row rfl 27 _ rfl gb309 rfl 27 _ _ _ (by first | exact Gv.kb0 BK309.out | exact Gv.kb1 (Gv.kb0 BK309.out)) Tryz.underlying27 rfl (by kernel_rfl) ?_))
    go_meet
    case rel => exact ⟨_, ((⟨#[97, 110, 121]⟩ : ByteArray)), Gv.rq, H', ⟨by first | omega | exact Nat.le_refl _⟩, ⟨by (with_reducible repeat (first | refine blk_drewN ?_ _ | refine blk_drew ?_ | refine blk_alloc ?_ _)); exact BK309.out⟩, ⟨Gv.bw⟩⟩
  case rest =>
   clear HC4
   try clear c1
   try clear c2
   try clear p2
   try clear c3
   try clear c9
   try clear c9b0
   try clear c11
   try clear c12
   try clear hcz11_0 hcz11_1
   try clear hcz11_10 hcz11_11 hcz11_12 hcz11_13 hcz11_14 hcz11_15 hcz11_16 hcz11_17 hcz11_18 hcz11_19
   try clear hcz11_2
   try clear hcz11_20
   try clear hcz11_3 hcz11_4 hcz11_5 hcz11_6 hcz11_7 hcz11_8 hcz11_9
   try clear hcz6_0 hcz6_1
   try clear hcz6_10 hcz6_11 hcz6_12 hcz6_13 hcz6_14 hcz6_15 hcz6_16 hcz6_17 hcz6_18 hcz6_19
   try clear hcz6_2
   try clear hcz6_20
   try clear hcz6_3 hcz6_4 hcz6_5 hcz6_6 hcz6_7 hcz6_8 hcz6_9
   try clear hcz8_0 hcz8_1
   try clear hcz8_10 hcz8_11 hcz8_12 hcz8_13 hcz8_14 hcz8_15 hcz8_16 hcz8_17 hcz8_18 hcz8_19
   try clear hcz8_2
   try clear hcz8_20
   try clear hcz8_3 hcz8_4 hcz8_5 hcz8_6 hcz8_7 hcz8_8 hcz8_9
   obtain ⟨kq, x3_3, rfl, HA, HJ3, BK309, HB⟩ := hcut
   cases kq with
   | zero => exact absurd HA.out (by simp [spec_RuleText.j0])
   | succ kj3 =>
    have H := HA.out
    clear HA
    simp only [spec_RuleText.j0] at H
    replace H := Option.bind_eq_some_iff.mp H
    obtain ⟨t312, A130, H⟩ := H
    replace H : (if t312.size + 6 ≤ 9223372036854775807 then ((spec_PrefixText.f kj3 a0_1 a0_2 a0_3 a0_4 a0_5 a0_6).bind fun t313 => (if (t312 ++ (⟨#[32, 102, 114, 111, 109, 32]⟩ : ByteArray)).size + t313.size ≤ 9223372036854775807 then (if ((t312 ++ (⟨#[32, 102, 114, 111, 109, 32]⟩ : ByteArray)) ++ t313).size + 4 ≤ 9223372036854775807 then ((spec_PrefixText.f kj3 a0_7 a0_8 a0_9 a0_10 a0_11 a0_12).bind fun t314 => (if (((t312 ++ (⟨#[32, 102, 114, 111, 109, 32]⟩ : ByteArray)) ++ t313) ++ (⟨#[32, 116, 111, 32]⟩ : ByteArray)).size + t314.size ≤ 9223372036854775807 then (if ((((t312 ++ (⟨#[32, 102, 114, 111, 109, 32]⟩ : ByteArray)) ++ t313) ++ (⟨#[32, 116, 111, 32]⟩ : ByteArray)) ++ t314).size + 7 ≤ 9223372036854775807 then (if (((((t312 ++ (⟨#[32, 102, 114, 111, 109, 32]⟩ : ByteArray)) ++ t313) ++ (⟨#[32, 116, 111, 32]⟩ : ByteArray)) ++ t314) ++ (⟨#[32, 112, 114, 111, 116, 111, 32]⟩ : ByteArray)).size + x3_3.size ≤ 9223372036854775807 then (if ((((((t312 ++ (⟨#[32, 102, 114, 111, 109, 32]⟩ : ByteArray)) ++ t313) ++ (⟨#[32, 116, 111, 32]⟩ : ByteArray)) ++ t314) ++ (⟨#[32, 112, 114, 111, 116, 111, 32]⟩ : ByteArray)) ++ x3_3).size + 7 ≤ 9223372036854775807 then ((spec_NumText.f kj3 a0_14).bind fun t315 => (if (((((((t312 ++ (⟨#[32, 102, 114, 111, 109, 32]⟩ : ByteArray)) ++ t313) ++ (⟨#[32, 116, 111, 32]⟩ : ByteArray)) ++ t314) ++ (⟨#[32, 112, 114, 111, 116, 111, 32]⟩ : ByteArray)) ++ x3_3) ++ (⟨#[32, 115, 112, 111, 114, 116, 32]⟩ : ByteArray)).size + t315.size ≤ 9223372036854775807 then (if ((((((((t312 ++ (⟨#[32, 102, 114, 111, 109, 32]⟩ : ByteArray)) ++ t313) ++ (⟨#[32, 116, 111, 32]⟩ : ByteArray)) ++ t314) ++ (⟨#[32, 112, 114, 111, 116, 111, 32]⟩ : ByteArray)) ++ x3_3) ++ (⟨#[32, 115, 112, 111, 114, 116, 32]⟩ : ByteArray)) ++ t315).size + 1 ≤ 9223372036854775807 then ((spec_NumText.f kj3 a0_15).bind fun t316 => (if (((((((((t312 ++ (⟨#[32, 102, 114, 111, 109, 32]⟩ : ByteArray)) ++ t313) ++ (⟨#[32, 116, 111, 32]⟩ : ByteArray)) ++ t314) ++ (⟨#[32, 112, 114, 111, 116, 111, 32]⟩ : ByteArray)) ++ x3_3) ++ (⟨#[32, 115, 112, 111, 114, 116, 32]⟩ : ByteArray)) ++ t315) ++ (⟨#[45]⟩ : ByteArray)).size + t316.size ≤ 9223372036854775807 then (if ((((((((((t312 ++ (⟨#[32, 102, 114, 111, 109, 32]⟩ : ByteArray)) ++ t313) ++ (⟨#[32, 116, 111, 32]⟩ : ByteArray)) ++ t314) ++ (⟨#[32, 112, 114, 111, 116, 111, 32]⟩ : ByteArray)) ++ x3_3) ++ (⟨#[32, 115, 112, 111, 114, 116, 32]⟩ : ByteArray)) ++ t315) ++ (⟨#[45]⟩ : ByteArray)) ++ t316).size + 7 ≤ 9223372036854775807 then ((spec_NumText.f kj3 a0_16).bind fun t317 => (if (((((((((((t312 ++ (⟨#[32, 102, 114, 111, 109, 32]⟩ : ByteArray)) ++ t313) ++ (⟨#[32, 116, 111, 32]⟩ : ByteArray)) ++ t314) ++ (⟨#[32, 112, 114, 111, 116, 111, 32]⟩ : ByteArray)) ++ x3_3) ++ (⟨#[32, 115, 112, 111, 114, 116, 32]⟩ : ByteArray)) ++ t315) ++ (⟨#[45]⟩ : ByteArray)) ++ t316) ++ (⟨#[32, 100, 112, 111, 114, 116, 32]⟩ : ByteArray)).size + t317.size ≤ 9223372036854775807 then (if ((((((((((((t312 ++ (⟨#[32, 102, 114, 111, 109, 32]⟩ : ByteArray)) ++ t313) ++ (⟨#[32, 116, 111, 32]⟩ : ByteArray)) ++ t314) ++ (⟨#[32, 112, 114, 111, 116, 111, 32]⟩ : ByteArray)) ++ x3_3) ++ (⟨#[32, 115, 112, 111, 114, 116, 32]⟩ : ByteArray)) ++ t315) ++ (⟨#[45]⟩ : ByteArray)) ++ t316) ++ (⟨#[32, 100, 112, 111, 114, 116, 32]⟩ : ByteArray)) ++ t317).size + 1 ≤ 9223372036854775807 then ((spec_NumText.f kj3 a0_17).bind fun t318 => (if (((((((((((((t312 ++ (⟨#[32, 102, 114, 111, 109, 32]⟩ : ByteArray)) ++ t313) ++ (⟨#[32, 116, 111, 32]⟩ : ByteArray)) ++ t314) ++ (⟨#[32, 112, 114, 111, 116, 111, 32]⟩ : ByteArray)) ++ x3_3) ++ (⟨#[32, 115, 112, 111, 114, 116, 32]⟩ : ByteArray)) ++ t315) ++ (⟨#[45]⟩ : ByteArray)) ++ t316) ++ (⟨#[32, 100, 112, 111, 114, 116, 32]⟩ : ByteArray)) ++ t317) ++ (⟨#[45]⟩ : ByteArray)).size + t318.size ≤ 9223372036854775807 then (if ((((((((((((((t312 ++ (⟨#[32, 102, 114, 111, 109, 32]⟩ : ByteArray)) ++ t313) ++ (⟨#[32, 116, 111, 32]⟩ : ByteArray)) ++ t314) ++ (⟨#[32, 112, 114, 111, 116, 111, 32]⟩ : ByteArray)) ++ x3_3) ++ (⟨#[32, 115, 112, 111, 114, 116, 32]⟩ : ByteArray)) ++ t315) ++ (⟨#[45]⟩ : ByteArray)) ++ t316) ++ (⟨#[32, 100, 112, 111, 114, 116, 32]⟩ : ByteArray)) ++ t317) ++ (⟨#[45]⟩ : ByteArray)) ++ t318).size + 8 ≤ 9223372036854775807 then ((spec_NumText.f kj3 a0_18).bind fun t319 => (if (((((((((((((((t312 ++ (⟨#[32, 102, 114, 111, 109, 32]⟩ : ByteArray)) ++ t313) ++ (⟨#[32, 116, 111, 32]⟩ : ByteArray)) ++ t314) ++ (⟨#[32, 112, 114, 111, 116, 111, 32]⟩ : ByteArray)) ++ x3_3) ++ (⟨#[32, 115, 112, 111, 114, 116, 32]⟩ : ByteArray)) ++ t315) ++ (⟨#[45]⟩ : ByteArray)) ++ t316) ++ (⟨#[32, 100, 112, 111, 114, 116, 32]⟩ : ByteArray)) ++ t317) ++ (⟨#[45]⟩ : ByteArray)) ++ t318) ++ (⟨#[32, 116, 101, 110, 97, 110, 116, 32]⟩ : ByteArray)).size + t319.size ≤ 9223372036854775807 then (if ((((((((((((((((t312 ++ (⟨#[32, 102, 114, 111, 109, 32]⟩ : ByteArray)) ++ t313) ++ (⟨#[32, 116, 111, 32]⟩ : ByteArray)) ++ t314) ++ (⟨#[32, 112, 114, 111, 116, 111, 32]⟩ : ByteArray)) ++ x3_3) ++ (⟨#[32, 115, 112, 111, 114, 116, 32]⟩ : ByteArray)) ++ t315) ++ (⟨#[45]⟩ : ByteArray)) ++ t316) ++ (⟨#[32, 100, 112, 111, 114, 116, 32]⟩ : ByteArray)) ++ t317) ++ (⟨#[45]⟩ : ByteArray)) ++ t318) ++ (⟨#[32, 116, 101, 110, 97, 110, 116, 32]⟩ : ByteArray)) ++ t319).size + 8 ≤ 9223372036854775807 then ((spec_NumText.f kj3 a0_19).bind fun t320 => (if (((((((((((((((((t312 ++ (⟨#[32, 102, 114, 111, 109, 32]⟩ : ByteArray)) ++ t313) ++ (⟨#[32, 116, 111, 32]⟩ : ByteArray)) ++ t314) ++ (⟨#[32, 112, 114, 111, 116, 111, 32]⟩ : ByteArray)) ++ x3_3) ++ (⟨#[32, 115, 112, 111, 114, 116, 32]⟩ : ByteArray)) ++ t315) ++ (⟨#[45]⟩ : ByteArray)) ++ t316) ++ (⟨#[32, 100, 112, 111, 114, 116, 32]⟩ : ByteArray)) ++ t317) ++ (⟨#[45]⟩ : ByteArray)) ++ t318) ++ (⟨#[32, 116, 101, 110, 97, 110, 116, 32]⟩ : ByteArray)) ++ t319) ++ (⟨#[32, 119, 101, 105, 103, 104, 116, 32]⟩ : ByteArray)).size + t320.size ≤ 9223372036854775807 then (if ((((((((((((((((((t312 ++ (⟨#[32, 102, 114, 111, 109, 32]⟩ : ByteArray)) ++ t313) ++ (⟨#[32, 116, 111, 32]⟩ : ByteArray)) ++ t314) ++ (⟨#[32, 112, 114, 111, 116, 111, 32]⟩ : ByteArray)) ++ x3_3) ++ (⟨#[32, 115, 112, 111, 114, 116, 32]⟩ : ByteArray)) ++ t315) ++ (⟨#[45]⟩ : ByteArray)) ++ t316) ++ (⟨#[32, 100, 112, 111, 114, 116, 32]⟩ : ByteArray)) ++ t317) ++ (⟨#[45]⟩ : ByteArray)) ++ t318) ++ (⟨#[32, 116, 101, 110, 97, 110, 116, 32]⟩ : ByteArray)) ++ t319) ++ (⟨#[32, 119, 101, 105, 103, 104, 116, 32]⟩ : ByteArray)) ++ t320).size + 7 ≤ 9223372036854775807 then ((spec_NumText.f kj3 a0_20).bind fun t321 => (if (((((((((((((((((((t312 ++ (⟨#[32, 102, 114, 111, 109, 32]⟩ : ByteArray)) ++ t313) ++ (⟨#[32, 116, 111, 32]⟩ : ByteArray)) ++ t314) ++ (⟨#[32, 112, 114, 111, 116, 111, 32]⟩ : ByteArray)) ++ x3_3) ++ (⟨#[32, 115, 112, 111, 114, 116, 32]⟩ : ByteArray)) ++ t315) ++ (⟨#[45]⟩ : ByteArray)) ++ t316) ++ (⟨#[32, 100, 112, 111, 114, 116, 32]⟩ : ByteArray)) ++ t317) ++ (⟨#[45]⟩ : ByteArray)) ++ t318) ++ (⟨#[32, 116, 101, 110, 97, 110, 116, 32]⟩ : ByteArray)) ++ t319) ++ (⟨#[32, 119, 101, 105, 103, 104, 116, 32]⟩ : ByteArray)) ++ t320) ++ (⟨#[32, 99, 104, 97, 105, 110, 32]⟩ : ByteArray)).size + t321.size ≤ 9223372036854775807 then (some ((((((((((((((((((((t312 ++ (⟨#[32, 102, 114, 111, 109, 32]⟩ : ByteArray)) ++ t313) ++ (⟨#[32, 116, 111, 32]⟩ : ByteArray)) ++ t314) ++ (⟨#[32, 112, 114, 111, 116, 111, 32]⟩ : ByteArray)) ++ x3_3) ++ (⟨#[32, 115, 112, 111, 114, 116, 32]⟩ : ByteArray)) ++ t315) ++ (⟨#[45]⟩ : ByteArray)) ++ t316) ++ (⟨#[32, 100, 112, 111, 114, 116, 32]⟩ : ByteArray)) ++ t317) ++ (⟨#[45]⟩ : ByteArray)) ++ t318) ++ (⟨#[32, 116, 101, 110, 97, 110, 116, 32]⟩ : ByteArray)) ++ t319) ++ (⟨#[32, 119, 101, 105, 103, 104, 116, 32]⟩ : ByteArray)) ++ t320) ++ (⟨#[32, 99, 104, 97, 105, 110, 32]⟩ : ByteArray)) ++ t321)) else (none))) else (none)) else (none))) else (none)) else (none))) else (none)) else (none))) else (none)) else (none))) else (none)) else (none))) else (none)) else (none))) else (none)) else (none)) else (none)) else (none))) else (none)) else (none))) else (none)) = some r := H
    have A13 := Gv.a0 A130
    clear A130
    by_cases c14 : t312.size + 6 ≤ 9223372036854775807
    ·rw [if_pos c14] at H
     have c14b0 := eq_true c14
     have c14b1 : decide (t312.size + 6 ≤ 9223372036854775807) = true := decide_eq_true c14
     try have c14b2 : (9223372036854775807 < t312.size + 6) = False := eq_false (Nat.not_lt.2 c14)
     replace H := Option.bind_eq_some_iff.mp H
     obtain ⟨t313, A150, H⟩ := H
     replace H : (if (t312 ++ (⟨#[32, 102, 114, 111, 109, 32]⟩ : ByteArray)).size + t313.size ≤ 9223372036854775807 then (if ((t312 ++ (⟨#[32, 102, 114, 111, 109, 32]⟩ : ByteArray)) ++ t313).size + 4 ≤ 9223372036854775807 then ((spec_PrefixText.f kj3 a0_7 a0_8 a0_9 a0_10 a0_11 a0_12).bind fun t314 => (if (((t312 ++ (⟨#[32, 102, 114, 111, 109, 32]⟩ : ByteArray)) ++ t313) ++ (⟨#[32, 116, 111, 32]⟩ : ByteArray)).size + t314.size ≤ 9223372036854775807 then (if ((((t312 ++ (⟨#[32, 102, 114, 111, 109, 32]⟩ : ByteArray)) ++ t313) ++ (⟨#[32, 116, 111, 32]⟩ : ByteArray)) ++ t314).size + 7 ≤ 9223372036854775807 then (if (((((t312 ++ (⟨#[32, 102, 114, 111, 109, 32]⟩ : ByteArray)) ++ t313) ++ (⟨#[32, 116, 111, 32]⟩ : ByteArray)) ++ t314) ++ (⟨#[32, 112, 114, 111, 116, 111, 32]⟩ : ByteArray)).size + x3_3.size ≤ 9223372036854775807 then (if ((((((t312 ++ (⟨#[32, 102, 114, 111, 109, 32]⟩ : ByteArray)) ++ t313) ++ (⟨#[32, 116, 111, 32]⟩ : ByteArray)) ++ t314) ++ (⟨#[32, 112, 114, 111, 116, 111, 32]⟩ : ByteArray)) ++ x3_3).size + 7 ≤ 9223372036854775807 then ((spec_NumText.f kj3 a0_14).bind fun t315 => (if (((((((t312 ++ (⟨#[32, 102, 114, 111, 109, 32]⟩ : ByteArray)) ++ t313) ++ (⟨#[32, 116, 111, 32]⟩ : ByteArray)) ++ t314) ++ (⟨#[32, 112, 114, 111, 116, 111, 32]⟩ : ByteArray)) ++ x3_3) ++ (⟨#[32, 115, 112, 111, 114, 116, 32]⟩ : ByteArray)).size + t315.size ≤ 9223372036854775807 then (if ((((((((t312 ++ (⟨#[32, 102, 114, 111, 109, 32]⟩ : ByteArray)) ++ t313) ++ (⟨#[32, 116, 111, 32]⟩ : ByteArray)) ++ t314) ++ (⟨#[32, 112, 114, 111, 116, 111, 32]⟩ : ByteArray)) ++ x3_3) ++ (⟨#[32, 115, 112, 111, 114, 116, 32]⟩ : ByteArray)) ++ t315).size + 1 ≤ 9223372036854775807 then ((spec_NumText.f kj3 a0_15).bind fun t316 => (if (((((((((t312 ++ (⟨#[32, 102, 114, 111, 109, 32]⟩ : ByteArray)) ++ t313) ++ (⟨#[32, 116, 111, 32]⟩ : ByteArray)) ++ t314) ++ (⟨#[32, 112, 114, 111, 116, 111, 32]⟩ : ByteArray)) ++ x3_3) ++ (⟨#[32, 115, 112, 111, 114, 116, 32]⟩ : ByteArray)) ++ t315) ++ (⟨#[45]⟩ : ByteArray)).size + t316.size ≤ 9223372036854775807 then (if ((((((((((t312 ++ (⟨#[32, 102, 114, 111, 109, 32]⟩ : ByteArray)) ++ t313) ++ (⟨#[32, 116, 111, 32]⟩ : ByteArray)) ++ t314) ++ (⟨#[32, 112, 114, 111, 116, 111, 32]⟩ : ByteArray)) ++ x3_3) ++ (⟨#[32, 115, 112, 111, 114, 116, 32]⟩ : ByteArray)) ++ t315) ++ (⟨#[45]⟩ : ByteArray)) ++ t316).size + 7 ≤ 9223372036854775807 then ((spec_NumText.f kj3 a0_16).bind fun t317 => (if (((((((((((t312 ++ (⟨#[32, 102, 114, 111, 109, 32]⟩ : ByteArray)) ++ t313) ++ (⟨#[32, 116, 111, 32]⟩ : ByteArray)) ++ t314) ++ (⟨#[32, 112, 114, 111, 116, 111, 32]⟩ : ByteArray)) ++ x3_3) ++ (⟨#[32, 115, 112, 111, 114, 116, 32]⟩ : ByteArray)) ++ t315) ++ (⟨#[45]⟩ : ByteArray)) ++ t316) ++ (⟨#[32, 100, 112, 111, 114, 116, 32]⟩ : ByteArray)).size + t317.size ≤ 9223372036854775807 then (if ((((((((((((t312 ++ (⟨#[32, 102, 114, 111, 109, 32]⟩ : ByteArray)) ++ t313) ++ (⟨#[32, 116, 111, 32]⟩ : ByteArray)) ++ t314) ++ (⟨#[32, 112, 114, 111, 116, 111, 32]⟩ : ByteArray)) ++ x3_3) ++ (⟨#[32, 115, 112, 111, 114, 116, 32]⟩ : ByteArray)) ++ t315) ++ (⟨#[45]⟩ : ByteArray)) ++ t316) ++ (⟨#[32, 100, 112, 111, 114, 116, 32]⟩ : ByteArray)) ++ t317).size + 1 ≤ 9223372036854775807 then ((spec_NumText.f kj3 a0_17).bind fun t318 => (if (((((((((((((t312 ++ (⟨#[32, 102, 114, 111, 109, 32]⟩ : ByteArray)) ++ t313) ++ (⟨#[32, 116, 111, 32]⟩ : ByteArray)) ++ t314) ++ (⟨#[32, 112, 114, 111, 116, 111, 32]⟩ : ByteArray)) ++ x3_3) ++ (⟨#[32, 115, 112, 111, 114, 116, 32]⟩ : ByteArray)) ++ t315) ++ (⟨#[45]⟩ : ByteArray)) ++ t316) ++ (⟨#[32, 100, 112, 111, 114, 116, 32]⟩ : ByteArray)) ++ t317) ++ (⟨#[45]⟩ : ByteArray)).size + t318.size ≤ 9223372036854775807 then (if ((((((((((((((t312 ++ (⟨#[32, 102, 114, 111, 109, 32]⟩ : ByteArray)) ++ t313) ++ (⟨#[32, 116, 111, 32]⟩ : ByteArray)) ++ t314) ++ (⟨#[32, 112, 114, 111, 116, 111, 32]⟩ : ByteArray)) ++ x3_3) ++ (⟨#[32, 115, 112, 111, 114, 116, 32]⟩ : ByteArray)) ++ t315) ++ (⟨#[45]⟩ : ByteArray)) ++ t316) ++ (⟨#[32, 100, 112, 111, 114, 116, 32]⟩ : ByteArray)) ++ t317) ++ (⟨#[45]⟩ : ByteArray)) ++ t318).size + 8 ≤ 9223372036854775807 then ((spec_NumText.f kj3 a0_18).bind fun t319 => (if (((((((((((((((t312 ++ (⟨#[32, 102, 114, 111, 109, 32]⟩ : ByteArray)) ++ t313) ++ (⟨#[32, 116, 111, 32]⟩ : ByteArray)) ++ t314) ++ (⟨#[32, 112, 114, 111, 116, 111, 32]⟩ : ByteArray)) ++ x3_3) ++ (⟨#[32, 115, 112, 111, 114, 116, 32]⟩ : ByteArray)) ++ t315) ++ (⟨#[45]⟩ : ByteArray)) ++ t316) ++ (⟨#[32, 100, 112, 111, 114, 116, 32]⟩ : ByteArray)) ++ t317) ++ (⟨#[45]⟩ : ByteArray)) ++ t318) ++ (⟨#[32, 116, 101, 110, 97, 110, 116, 32]⟩ : ByteArray)).size + t319.size ≤ 9223372036854775807 then (if ((((((((((((((((t312 ++ (⟨#[32, 102, 114, 111, 109, 32]⟩ : ByteArray)) ++ t313) ++ (⟨#[32, 116, 111, 32]⟩ : ByteArray)) ++ t314) ++ (⟨#[32, 112, 114, 111, 116, 111, 32]⟩ : ByteArray)) ++ x3_3) ++ (⟨#[32, 115, 112, 111, 114, 116, 32]⟩ : ByteArray)) ++ t315) ++ (⟨#[45]⟩ : ByteArray)) ++ t316) ++ (⟨#[32, 100, 112, 111, 114, 116, 32]⟩ : ByteArray)) ++ t317) ++ (⟨#[45]⟩ : ByteArray)) ++ t318) ++ (⟨#[32, 116, 101, 110, 97, 110, 116, 32]⟩ : ByteArray)) ++ t319).size + 8 ≤ 9223372036854775807 then ((spec_NumText.f kj3 a0_19).bind fun t320 => (if (((((((((((((((((t312 ++ (⟨#[32, 102, 114, 111, 109, 32]⟩ : ByteArray)) ++ t313) ++ (⟨#[32, 116, 111, 32]⟩ : ByteArray)) ++ t314) ++ (⟨#[32, 112, 114, 111, 116, 111, 32]⟩ : ByteArray)) ++ x3_3) ++ (⟨#[32, 115, 112, 111, 114, 116, 32]⟩ : ByteArray)) ++ t315) ++ (⟨#[45]⟩ : ByteArray)) ++ t316) ++ (⟨#[32, 100, 112, 111, 114, 116, 32]⟩ : ByteArray)) ++ t317) ++ (⟨#[45]⟩ : ByteArray)) ++ t318) ++ (⟨#[32, 116, 101, 110, 97, 110, 116, 32]⟩ : ByteArray)) ++ t319) ++ (⟨#[32, 119, 101, 105, 103, 104, 116, 32]⟩ : ByteArray)).size + t320.size ≤ 9223372036854775807 then (if ((((((((((((((((((t312 ++ (⟨#[32, 102, 114, 111, 109, 32]⟩ : ByteArray)) ++ t313) ++ (⟨#[32, 116, 111, 32]⟩ : ByteArray)) ++ t314) ++ (⟨#[32, 112, 114, 111, 116, 111, 32]⟩ : ByteArray)) ++ x3_3) ++ (⟨#[32, 115, 112, 111, 114, 116, 32]⟩ : ByteArray)) ++ t315) ++ (⟨#[45]⟩ : ByteArray)) ++ t316) ++ (⟨#[32, 100, 112, 111, 114, 116, 32]⟩ : ByteArray)) ++ t317) ++ (⟨#[45]⟩ : ByteArray)) ++ t318) ++ (⟨#[32, 116, 101, 110, 97, 110, 116, 32]⟩ : ByteArray)) ++ t319) ++ (⟨#[32, 119, 101, 105, 103, 104, 116, 32]⟩ : ByteArray)) ++ t320).size + 7 ≤ 9223372036854775807 then ((spec_NumText.f kj3 a0_20).bind fun t321 => (if (((((((((((((((((((t312 ++ (⟨#[32, 102, 114, 111, 109, 32]⟩ : ByteArray)) ++ t313) ++ (⟨#[32, 116, 111, 32]⟩ : ByteArray)) ++ t314) ++ (⟨#[32, 112, 114, 111, 116, 111, 32]⟩ : ByteArray)) ++ x3_3) ++ (⟨#[32, 115, 112, 111, 114, 116, 32]⟩ : ByteArray)) ++ t315) ++ (⟨#[45]⟩ : ByteArray)) ++ t316) ++ (⟨#[32, 100, 112, 111, 114, 116, 32]⟩ : ByteArray)) ++ t317) ++ (⟨#[45]⟩ : ByteArray)) ++ t318) ++ (⟨#[32, 116, 101, 110, 97, 110, 116, 32]⟩ : ByteArray)) ++ t319) ++ (⟨#[32, 119, 101, 105, 103, 104, 116, 32]⟩ : ByteArray)) ++ t320) ++ (⟨#[32, 99, 104, 97, 105, 110, 32]⟩ : ByteArray)).size + t321.size ≤ 9223372036854775807 then (some ((((((((((((((((((((t312 ++ (⟨#[32, 102, 114, 111, 109, 32]⟩ : ByteArray)) ++ t313) ++ (⟨#[32, 116, 111, 32]⟩ : ByteArray)) ++ t314) ++ (⟨#[32, 112, 114, 111, 116, 111, 32]⟩ : ByteArray)) ++ x3_3) ++ (⟨#[32, 115, 112, 111, 114, 116, 32]⟩ : ByteArray)) ++ t315) ++ (⟨#[45]⟩ : ByteArray)) ++ t316) ++ (⟨#[32, 100, 112, 111, 114, 116, 32]⟩ : ByteArray)) ++ t317) ++ (⟨#[45]⟩ : ByteArray)) ++ t318) ++ (⟨#[32, 116, 101, 110, 97, 110, 116, 32]⟩ : ByteArray)) ++ t319) ++ (⟨#[32, 119, 101, 105, 103, 104, 116, 32]⟩ : ByteArray)) ++ t320) ++ (⟨#[32, 99, 104, 97, 105, 110, 32]⟩ : ByteArray)) ++ t321)) else (none))) else (none)) else (none))) else (none)) else (none))) else (none)) else (none))) else (none)) else (none))) else (none)) else (none))) else (none)) else (none))) else (none)) else (none)) else (none)) else (none))) else (none)) else (none)) = some r := H
     have A15 := Gv.a0 A150
     clear A150
     by_cases c16 : (t312 ++ (⟨#[32, 102, 114, 111, 109, 32]⟩ : ByteArray)).size + t313.size ≤ 9223372036854775807
     ·rw [if_pos c16] at H
      have c16b0 := eq_true c16
      have c16b1 : decide ((t312 ++ (⟨#[32, 102, 114, 111, 109, 32]⟩ : ByteArray)).size + t313.size ≤ 9223372036854775807) = true := decide_eq_true c16
      have c16s : t312.size + 6 + t313.size ≤ 9223372036854775807 := (by have h_ := c16; simp only [ByteArray.size_append] at h_; exact h_)
      have c16b3 := eq_true c16s
      have c16b4 : decide (t312.size + 6 + t313.size ≤ 9223372036854775807) = true := decide_eq_true c16s
      have c16b5 : (9223372036854775807 < t312.size + 6 + t313.size) = False := eq_false (Nat.not_lt.2 c16s)
      clear c16s
      try have c16b2 : (9223372036854775807 < (t312 ++ (⟨#[32, 102, 114, 111, 109, 32]⟩ : ByteArray)).size + t313.size) = False := eq_false (Nat.not_lt.2 c16)
      by_cases c17 : ((t312 ++ (⟨#[32, 102, 114, 111, 109, 32]⟩ : ByteArray)) ++ t313).size + 4 ≤ 9223372036854775807
      ·rw [if_pos c17] at H
       have c17b0 := eq_true c17
       have c17b1 : decide (((t312 ++ (⟨#[32, 102, 114, 111, 109, 32]⟩ : ByteArray)) ++ t313).size + 4 ≤ 9223372036854775807) = true := decide_eq_true c17
       have c17s : t312.size + 6 + t313.size + 4 ≤ 9223372036854775807 := (by have h_ := c17; simp only [ByteArray.size_append] at h_; exact h_)
       have c17b3 := eq_true c17s
       have c17b4 : decide (t312.size + 6 + t313.size + 4 ≤ 9223372036854775807) = true := decide_eq_true c17s
       have c17b5 : (9223372036854775807 < t312.size + 6 + t313.size + 4) = False := eq_false (Nat.not_lt.2 c17s)
       clear c17s
       try have c17b2 : (9223372036854775807 < ((t312 ++ (⟨#[32, 102, 114, 111, 109, 32]⟩ : ByteArray)) ++ t313).size + 4) = False := eq_false (Nat.not_lt.2 c17)
       replace H := Option.bind_eq_some_iff.mp H
       obtain ⟨t314, A180, H⟩ := H
       replace H : (if (((t312 ++ (⟨#[32, 102, 114, 111, 109, 32]⟩ : ByteArray)) ++ t313) ++ (⟨#[32, 116, 111, 32]⟩ : ByteArray)).size + t314.size ≤ 9223372036854775807 then (if ((((t312 ++ (⟨#[32, 102, 114, 111, 109, 32]⟩ : ByteArray)) ++ t313) ++ (⟨#[32, 116, 111, 32]⟩ : ByteArray)) ++ t314).size + 7 ≤ 9223372036854775807 then (if (((((t312 ++ (⟨#[32, 102, 114, 111, 109, 32]⟩ : ByteArray)) ++ t313) ++ (⟨#[32, 116, 111, 32]⟩ : ByteArray)) ++ t314) ++ (⟨#[32, 112, 114, 111, 116, 111, 32]⟩ : ByteArray)).size + x3_3.size ≤ 9223372036854775807 then (if ((((((t312 ++ (⟨#[32, 102, 114, 111, 109, 32]⟩ : ByteArray)) ++ t313) ++ (⟨#[32, 116, 111, 32]⟩ : ByteArray)) ++ t314) ++ (⟨#[32, 112, 114, 111, 116, 111, 32]⟩ : ByteArray)) ++ x3_3).size + 7 ≤ 9223372036854775807 then ((spec_NumText.f kj3 a0_14).bind fun t315 => (if (((((((t312 ++ (⟨#[32, 102, 114, 111, 109, 32]⟩ : ByteArray)) ++ t313) ++ (⟨#[32, 116, 111, 32]⟩ : ByteArray)) ++ t314) ++ (⟨#[32, 112, 114, 111, 116, 111, 32]⟩ : ByteArray)) ++ x3_3) ++ (⟨#[32, 115, 112, 111, 114, 116, 32]⟩ : ByteArray)).size + t315.size ≤ 9223372036854775807 then (if ((((((((t312 ++ (⟨#[32, 102, 114, 111, 109, 32]⟩ : ByteArray)) ++ t313) ++ (⟨#[32, 116, 111, 32]⟩ : ByteArray)) ++ t314) ++ (⟨#[32, 112, 114, 111, 116, 111, 32]⟩ : ByteArray)) ++ x3_3) ++ (⟨#[32, 115, 112, 111, 114, 116, 32]⟩ : ByteArray)) ++ t315).size + 1 ≤ 9223372036854775807 then ((spec_NumText.f kj3 a0_15).bind fun t316 => (if (((((((((t312 ++ (⟨#[32, 102, 114, 111, 109, 32]⟩ : ByteArray)) ++ t313) ++ (⟨#[32, 116, 111, 32]⟩ : ByteArray)) ++ t314) ++ (⟨#[32, 112, 114, 111, 116, 111, 32]⟩ : ByteArray)) ++ x3_3) ++ (⟨#[32, 115, 112, 111, 114, 116, 32]⟩ : ByteArray)) ++ t315) ++ (⟨#[45]⟩ : ByteArray)).size + t316.size ≤ 9223372036854775807 then (if ((((((((((t312 ++ (⟨#[32, 102, 114, 111, 109, 32]⟩ : ByteArray)) ++ t313) ++ (⟨#[32, 116, 111, 32]⟩ : ByteArray)) ++ t314) ++ (⟨#[32, 112, 114, 111, 116, 111, 32]⟩ : ByteArray)) ++ x3_3) ++ (⟨#[32, 115, 112, 111, 114, 116, 32]⟩ : ByteArray)) ++ t315) ++ (⟨#[45]⟩ : ByteArray)) ++ t316).size + 7 ≤ 9223372036854775807 then ((spec_NumText.f kj3 a0_16).bind fun t317 => (if (((((((((((t312 ++ (⟨#[32, 102, 114, 111, 109, 32]⟩ : ByteArray)) ++ t313) ++ (⟨#[32, 116, 111, 32]⟩ : ByteArray)) ++ t314) ++ (⟨#[32, 112, 114, 111, 116, 111, 32]⟩ : ByteArray)) ++ x3_3) ++ (⟨#[32, 115, 112, 111, 114, 116, 32]⟩ : ByteArray)) ++ t315) ++ (⟨#[45]⟩ : ByteArray)) ++ t316) ++ (⟨#[32, 100, 112, 111, 114, 116, 32]⟩ : ByteArray)).size + t317.size ≤ 9223372036854775807 then (if ((((((((((((t312 ++ (⟨#[32, 102, 114, 111, 109, 32]⟩ : ByteArray)) ++ t313) ++ (⟨#[32, 116, 111, 32]⟩ : ByteArray)) ++ t314) ++ (⟨#[32, 112, 114, 111, 116, 111, 32]⟩ : ByteArray)) ++ x3_3) ++ (⟨#[32, 115, 112, 111, 114, 116, 32]⟩ : ByteArray)) ++ t315) ++ (⟨#[45]⟩ : ByteArray)) ++ t316) ++ (⟨#[32, 100, 112, 111, 114, 116, 32]⟩ : ByteArray)) ++ t317).size + 1 ≤ 9223372036854775807 then ((spec_NumText.f kj3 a0_17).bind fun t318 => (if (((((((((((((t312 ++ (⟨#[32, 102, 114, 111, 109, 32]⟩ : ByteArray)) ++ t313) ++ (⟨#[32, 116, 111, 32]⟩ : ByteArray)) ++ t314) ++ (⟨#[32, 112, 114, 111, 116, 111, 32]⟩ : ByteArray)) ++ x3_3) ++ (⟨#[32, 115, 112, 111, 114, 116, 32]⟩ : ByteArray)) ++ t315) ++ (⟨#[45]⟩ : ByteArray)) ++ t316) ++ (⟨#[32, 100, 112, 111, 114, 116, 32]⟩ : ByteArray)) ++ t317) ++ (⟨#[45]⟩ : ByteArray)).size + t318.size ≤ 9223372036854775807 then (if ((((((((((((((t312 ++ (⟨#[32, 102, 114, 111, 109, 32]⟩ : ByteArray)) ++ t313) ++ (⟨#[32, 116, 111, 32]⟩ : ByteArray)) ++ t314) ++ (⟨#[32, 112, 114, 111, 116, 111, 32]⟩ : ByteArray)) ++ x3_3) ++ (⟨#[32, 115, 112, 111, 114, 116, 32]⟩ : ByteArray)) ++ t315) ++ (⟨#[45]⟩ : ByteArray)) ++ t316) ++ (⟨#[32, 100, 112, 111, 114, 116, 32]⟩ : ByteArray)) ++ t317) ++ (⟨#[45]⟩ : ByteArray)) ++ t318).size + 8 ≤ 9223372036854775807 then ((spec_NumText.f kj3 a0_18).bind fun t319 => (if (((((((((((((((t312 ++ (⟨#[32, 102, 114, 111, 109, 32]⟩ : ByteArray)) ++ t313) ++ (⟨#[32, 116, 111, 32]⟩ : ByteArray)) ++ t314) ++ (⟨#[32, 112, 114, 111, 116, 111, 32]⟩ : ByteArray)) ++ x3_3) ++ (⟨#[32, 115, 112, 111, 114, 116, 32]⟩ : ByteArray)) ++ t315) ++ (⟨#[45]⟩ : ByteArray)) ++ t316) ++ (⟨#[32, 100, 112, 111, 114, 116, 32]⟩ : ByteArray)) ++ t317) ++ (⟨#[45]⟩ : ByteArray)) ++ t318) ++ (⟨#[32, 116, 101, 110, 97, 110, 116, 32]⟩ : ByteArray)).size + t319.size ≤ 9223372036854775807 then (if ((((((((((((((((t312 ++ (⟨#[32, 102, 114, 111, 109, 32]⟩ : ByteArray)) ++ t313) ++ (⟨#[32, 116, 111, 32]⟩ : ByteArray)) ++ t314) ++ (⟨#[32, 112, 114, 111, 116, 111, 32]⟩ : ByteArray)) ++ x3_3) ++ (⟨#[32, 115, 112, 111, 114, 116, 32]⟩ : ByteArray)) ++ t315) ++ (⟨#[45]⟩ : ByteArray)) ++ t316) ++ (⟨#[32, 100, 112, 111, 114, 116, 32]⟩ : ByteArray)) ++ t317) ++ (⟨#[45]⟩ : ByteArray)) ++ t318) ++ (⟨#[32, 116, 101, 110, 97, 110, 116, 32]⟩ : ByteArray)) ++ t319).size + 8 ≤ 9223372036854775807 then ((spec_NumText.f kj3 a0_19).bind fun t320 => (if (((((((((((((((((t312 ++ (⟨#[32, 102, 114, 111, 109, 32]⟩ : ByteArray)) ++ t313) ++ (⟨#[32, 116, 111, 32]⟩ : ByteArray)) ++ t314) ++ (⟨#[32, 112, 114, 111, 116, 111, 32]⟩ : ByteArray)) ++ x3_3) ++ (⟨#[32, 115, 112, 111, 114, 116, 32]⟩ : ByteArray)) ++ t315) ++ (⟨#[45]⟩ : ByteArray)) ++ t316) ++ (⟨#[32, 100, 112, 111, 114, 116, 32]⟩ : ByteArray)) ++ t317) ++ (⟨#[45]⟩ : ByteArray)) ++ t318) ++ (⟨#[32, 116, 101, 110, 97, 110, 116, 32]⟩ : ByteArray)) ++ t319) ++ (⟨#[32, 119, 101, 105, 103, 104, 116, 32]⟩ : ByteArray)).size + t320.size ≤ 9223372036854775807 then (if ((((((((((((((((((t312 ++ (⟨#[32, 102, 114, 111, 109, 32]⟩ : ByteArray)) ++ t313) ++ (⟨#[32, 116, 111, 32]⟩ : ByteArray)) ++ t314) ++ (⟨#[32, 112, 114, 111, 116, 111, 32]⟩ : ByteArray)) ++ x3_3) ++ (⟨#[32, 115, 112, 111, 114, 116, 32]⟩ : ByteArray)) ++ t315) ++ (⟨#[45]⟩ : ByteArray)) ++ t316) ++ (⟨#[32, 100, 112, 111, 114, 116, 32]⟩ : ByteArray)) ++ t317) ++ (⟨#[45]⟩ : ByteArray)) ++ t318) ++ (⟨#[32, 116, 101, 110, 97, 110, 116, 32]⟩ : ByteArray)) ++ t319) ++ (⟨#[32, 119, 101, 105, 103, 104, 116, 32]⟩ : ByteArray)) ++ t320).size + 7 ≤ 9223372036854775807 then ((spec_NumText.f kj3 a0_20).bind fun t321 => (if (((((((((((((((((((t312 ++ (⟨#[32, 102, 114, 111, 109, 32]⟩ : ByteArray)) ++ t313) ++ (⟨#[32, 116, 111, 32]⟩ : ByteArray)) ++ t314) ++ (⟨#[32, 112, 114, 111, 116, 111, 32]⟩ : ByteArray)) ++ x3_3) ++ (⟨#[32, 115, 112, 111, 114, 116, 32]⟩ : ByteArray)) ++ t315) ++ (⟨#[45]⟩ : ByteArray)) ++ t316) ++ (⟨#[32, 100, 112, 111, 114, 116, 32]⟩ : ByteArray)) ++ t317) ++ (⟨#[45]⟩ : ByteArray)) ++ t318) ++ (⟨#[32, 116, 101, 110, 97, 110, 116, 32]⟩ : ByteArray)) ++ t319) ++ (⟨#[32, 119, 101, 105, 103, 104, 116, 32]⟩ : ByteArray)) ++ t320) ++ (⟨#[32, 99, 104, 97, 105, 110, 32]⟩ : ByteArray)).size + t321.size ≤ 9223372036854775807 then (some ((((((((((((((((((((t312 ++ (⟨#[32, 102, 114, 111, 109, 32]⟩ : ByteArray)) ++ t313) ++ (⟨#[32, 116, 111, 32]⟩ : ByteArray)) ++ t314) ++ (⟨#[32, 112, 114, 111, 116, 111, 32]⟩ : ByteArray)) ++ x3_3) ++ (⟨#[32, 115, 112, 111, 114, 116, 32]⟩ : ByteArray)) ++ t315) ++ (⟨#[45]⟩ : ByteArray)) ++ t316) ++ (⟨#[32, 100, 112, 111, 114, 116, 32]⟩ : ByteArray)) ++ t317) ++ (⟨#[45]⟩ : ByteArray)) ++ t318) ++ (⟨#[32, 116, 101, 110, 97, 110, 116, 32]⟩ : ByteArray)) ++ t319) ++ (⟨#[32, 119, 101, 105, 103, 104, 116, 32]⟩ : ByteArray)) ++ t320) ++ (⟨#[32, 99, 104, 97, 105, 110, 32]⟩ : ByteArray)) ++ t321)) else (none))) else (none)) else (none))) else (none)) else (none))) else (none)) else (none))) else (none)) else (none))) else (none)) else (none))) else (none)) else (none))) else (none)) else (none)) else (none)) else (none)) = some r := H
       have A18 := Gv.a0 A180
       clear A180
       by_cases c19 : (((t312 ++ (⟨#[32, 102, 114, 111, 109, 32]⟩ : ByteArray)) ++ t313) ++ (⟨#[32, 116, 111, 32]⟩ : ByteArray)).size + t314.size ≤ 9223372036854775807
       ·rw [if_pos c19] at H
        have c19b0 := eq_true c19
        have c19b1 : decide ((((t312 ++ (⟨#[32, 102, 114, 111, 109, 32]⟩ : ByteArray)) ++ t313) ++ (⟨#[32, 116, 111, 32]⟩ : ByteArray)).size + t314.size ≤ 9223372036854775807) = true := decide_eq_true c19
        have c19s : t312.size + 6 + t313.size + 4 + t314.size ≤ 9223372036854775807 := (by have h_ := c19; simp only [ByteArray.size_append] at h_; exact h_)
        have c19b3 := eq_true c19s
        have c19b4 : decide (t312.size + 6 + t313.size + 4 + t314.size ≤ 9223372036854775807) = true := decide_eq_true c19s
        have c19b5 : (9223372036854775807 < t312.size + 6 + t313.size + 4 + t314.size) = False := eq_false (Nat.not_lt.2 c19s)
        clear c19s
        try have c19b2 : (9223372036854775807 < (((t312 ++ (⟨#[32, 102, 114, 111, 109, 32]⟩ : ByteArray)) ++ t313) ++ (⟨#[32, 116, 111, 32]⟩ : ByteArray)).size + t314.size) = False := eq_false (Nat.not_lt.2 c19)
        by_cases c20 : ((((t312 ++ (⟨#[32, 102, 114, 111, 109, 32]⟩ : ByteArray)) ++ t313) ++ (⟨#[32, 116, 111, 32]⟩ : ByteArray)) ++ t314).size + 7 ≤ 9223372036854775807
        ·rw [if_pos c20] at H
         have c20b0 := eq_true c20
         have c20b1 : decide (((((t312 ++ (⟨#[32, 102, 114, 111, 109, 32]⟩ : ByteArray)) ++ t313) ++ (⟨#[32, 116, 111, 32]⟩ : ByteArray)) ++ t314).size + 7 ≤ 9223372036854775807) = true := decide_eq_true c20
         have c20s : t312.size + 6 + t313.size + 4 + t314.size + 7 ≤ 9223372036854775807 := (by have h_ := c20; simp only [ByteArray.size_append] at h_; exact h_)
         have c20b3 := eq_true c20s
         have c20b4 : decide (t312.size + 6 + t313.size + 4 + t314.size + 7 ≤ 9223372036854775807) = true := decide_eq_true c20s
         have c20b5 : (9223372036854775807 < t312.size + 6 + t313.size + 4 + t314.size + 7) = False := eq_false (Nat.not_lt.2 c20s)
         clear c20s
         try have c20b2 : (9223372036854775807 < ((((t312 ++ (⟨#[32, 102, 114, 111, 109, 32]⟩ : ByteArray)) ++ t313) ++ (⟨#[32, 116, 111, 32]⟩ : ByteArray)) ++ t314).size + 7) = False := eq_false (Nat.not_lt.2 c20)
         by_cases c21 : (((((t312 ++ (⟨#[32, 102, 114, 111, 109, 32]⟩ : ByteArray)) ++ t313) ++ (⟨#[32, 116, 111, 32]⟩ : ByteArray)) ++ t314) ++ (⟨#[32, 112, 114, 111, 116, 111, 32]⟩ : ByteArray)).size + x3_3.size ≤ 9223372036854775807
         ·rw [if_pos c21] at H
          have c21b0 := eq_true c21
          have c21b1 : decide ((((((t312 ++ (⟨#[32, 102, 114, 111, 109, 32]⟩ : ByteArray)) ++ t313) ++ (⟨#[32, 116, 111, 32]⟩ : ByteArray)) ++ t314) ++ (⟨#[32, 112, 114, 111, 116, 111, 32]⟩ : ByteArray)).size + x3_3.size ≤ 9223372036854775807) = true := decide_eq_true c21
          have c21s : t312.size + 6 + t313.size + 4 + t314.size + 7 + x3_3.size ≤ 9223372036854775807 := (by have h_ := c21; simp only [ByteArray.size_append] at h_; exact h_)
          have c21b3 := eq_true c21s
          have c21b4 : decide (t312.size + 6 + t313.size + 4 + t314.size + 7 + x3_3.size ≤ 9223372036854775807) = true := decide_eq_true c21s
          have c21b5 : (9223372036854775807 < t312.size + 6 + t313.size + 4 + t314.size + 7 + x3_3.size) = False := eq_false (Nat.not_lt.2 c21s)
          clear c21s
          try have c21b2 : (9223372036854775807 < (((((t312 ++ (⟨#[32, 102, 114, 111, 109, 32]⟩ : ByteArray)) ++ t313) ++ (⟨#[32, 116, 111, 32]⟩ : ByteArray)) ++ t314) ++ (⟨#[32, 112, 114, 111, 116, 111, 32]⟩ : ByteArray)).size + x3_3.size) = False := eq_false (Nat.not_lt.2 c21)
          by_cases c22 : ((((((t312 ++ (⟨#[32, 102, 114, 111, 109, 32]⟩ : ByteArray)) ++ t313) ++ (⟨#[32, 116, 111, 32]⟩ : ByteArray)) ++ t314) ++ (⟨#[32, 112, 114, 111, 116, 111, 32]⟩ : ByteArray)) ++ x3_3).size + 7 ≤ 9223372036854775807
          ·rw [if_pos c22] at H
           have c22b0 := eq_true c22
           have c22b1 : decide (((((((t312 ++ (⟨#[32, 102, 114, 111, 109, 32]⟩ : ByteArray)) ++ t313) ++ (⟨#[32, 116, 111, 32]⟩ : ByteArray)) ++ t314) ++ (⟨#[32, 112, 114, 111, 116, 111, 32]⟩ : ByteArray)) ++ x3_3).size + 7 ≤ 9223372036854775807) = true := decide_eq_true c22
           have c22s : t312.size + 6 + t313.size + 4 + t314.size + 7 + x3_3.size + 7 ≤ 9223372036854775807 := (by have h_ := c22; simp only [ByteArray.size_append] at h_; exact h_)
           have c22b3 := eq_true c22s
           have c22b4 : decide (t312.size + 6 + t313.size + 4 + t314.size + 7 + x3_3.size + 7 ≤ 9223372036854775807) = true := decide_eq_true c22s
           have c22b5 : (9223372036854775807 < t312.size + 6 + t313.size + 4 + t314.size + 7 + x3_3.size + 7) = False := eq_false (Nat.not_lt.2 c22s)
           clear c22s
           try have c22b2 : (9223372036854775807 < ((((((t312 ++ (⟨#[32, 102, 114, 111, 109, 32]⟩ : ByteArray)) ++ t313) ++ (⟨#[32, 116, 111, 32]⟩ : ByteArray)) ++ t314) ++ (⟨#[32, 112, 114, 111, 116, 111, 32]⟩ : ByteArray)) ++ x3_3).size + 7) = False := eq_false (Nat.not_lt.2 c22)
           replace H := Option.bind_eq_some_iff.mp H
           obtain ⟨t315, A230, H⟩ := H
           replace H : (if (((((((t312 ++ (⟨#[32, 102, 114, 111, 109, 32]⟩ : ByteArray)) ++ t313) ++ (⟨#[32, 116, 111, 32]⟩ : ByteArray)) ++ t314) ++ (⟨#[32, 112, 114, 111, 116, 111, 32]⟩ : ByteArray)) ++ x3_3) ++ (⟨#[32, 115, 112, 111, 114, 116, 32]⟩ : ByteArray)).size + t315.size ≤ 9223372036854775807 then (if ((((((((t312 ++ (⟨#[32, 102, 114, 111, 109, 32]⟩ : ByteArray)) ++ t313) ++ (⟨#[32, 116, 111, 32]⟩ : ByteArray)) ++ t314) ++ (⟨#[32, 112, 114, 111, 116, 111, 32]⟩ : ByteArray)) ++ x3_3) ++ (⟨#[32, 115, 112, 111, 114, 116, 32]⟩ : ByteArray)) ++ t315).size + 1 ≤ 9223372036854775807 then ((spec_NumText.f kj3 a0_15).bind fun t316 => (if (((((((((t312 ++ (⟨#[32, 102, 114, 111, 109, 32]⟩ : ByteArray)) ++ t313) ++ (⟨#[32, 116, 111, 32]⟩ : ByteArray)) ++ t314) ++ (⟨#[32, 112, 114, 111, 116, 111, 32]⟩ : ByteArray)) ++ x3_3) ++ (⟨#[32, 115, 112, 111, 114, 116, 32]⟩ : ByteArray)) ++ t315) ++ (⟨#[45]⟩ : ByteArray)).size + t316.size ≤ 9223372036854775807 then (if ((((((((((t312 ++ (⟨#[32, 102, 114, 111, 109, 32]⟩ : ByteArray)) ++ t313) ++ (⟨#[32, 116, 111, 32]⟩ : ByteArray)) ++ t314) ++ (⟨#[32, 112, 114, 111, 116, 111, 32]⟩ : ByteArray)) ++ x3_3) ++ (⟨#[32, 115, 112, 111, 114, 116, 32]⟩ : ByteArray)) ++ t315) ++ (⟨#[45]⟩ : ByteArray)) ++ t316).size + 7 ≤ 9223372036854775807 then ((spec_NumText.f kj3 a0_16).bind fun t317 => (if (((((((((((t312 ++ (⟨#[32, 102, 114, 111, 109, 32]⟩ : ByteArray)) ++ t313) ++ (⟨#[32, 116, 111, 32]⟩ : ByteArray)) ++ t314) ++ (⟨#[32, 112, 114, 111, 116, 111, 32]⟩ : ByteArray)) ++ x3_3) ++ (⟨#[32, 115, 112, 111, 114, 116, 32]⟩ : ByteArray)) ++ t315) ++ (⟨#[45]⟩ : ByteArray)) ++ t316) ++ (⟨#[32, 100, 112, 111, 114, 116, 32]⟩ : ByteArray)).size + t317.size ≤ 9223372036854775807 then (if ((((((((((((t312 ++ (⟨#[32, 102, 114, 111, 109, 32]⟩ : ByteArray)) ++ t313) ++ (⟨#[32, 116, 111, 32]⟩ : ByteArray)) ++ t314) ++ (⟨#[32, 112, 114, 111, 116, 111, 32]⟩ : ByteArray)) ++ x3_3) ++ (⟨#[32, 115, 112, 111, 114, 116, 32]⟩ : ByteArray)) ++ t315) ++ (⟨#[45]⟩ : ByteArray)) ++ t316) ++ (⟨#[32, 100, 112, 111, 114, 116, 32]⟩ : ByteArray)) ++ t317).size + 1 ≤ 9223372036854775807 then ((spec_NumText.f kj3 a0_17).bind fun t318 => (if (((((((((((((t312 ++ (⟨#[32, 102, 114, 111, 109, 32]⟩ : ByteArray)) ++ t313) ++ (⟨#[32, 116, 111, 32]⟩ : ByteArray)) ++ t314) ++ (⟨#[32, 112, 114, 111, 116, 111, 32]⟩ : ByteArray)) ++ x3_3) ++ (⟨#[32, 115, 112, 111, 114, 116, 32]⟩ : ByteArray)) ++ t315) ++ (⟨#[45]⟩ : ByteArray)) ++ t316) ++ (⟨#[32, 100, 112, 111, 114, 116, 32]⟩ : ByteArray)) ++ t317) ++ (⟨#[45]⟩ : ByteArray)).size + t318.size ≤ 9223372036854775807 then (if ((((((((((((((t312 ++ (⟨#[32, 102, 114, 111, 109, 32]⟩ : ByteArray)) ++ t313) ++ (⟨#[32, 116, 111, 32]⟩ : ByteArray)) ++ t314) ++ (⟨#[32, 112, 114, 111, 116, 111, 32]⟩ : ByteArray)) ++ x3_3) ++ (⟨#[32, 115, 112, 111, 114, 116, 32]⟩ : ByteArray)) ++ t315) ++ (⟨#[45]⟩ : ByteArray)) ++ t316) ++ (⟨#[32, 100, 112, 111, 114, 116, 32]⟩ : ByteArray)) ++ t317) ++ (⟨#[45]⟩ : ByteArray)) ++ t318).size + 8 ≤ 9223372036854775807 then ((spec_NumText.f kj3 a0_18).bind fun t319 => (if (((((((((((((((t312 ++ (⟨#[32, 102, 114, 111, 109, 32]⟩ : ByteArray)) ++ t313) ++ (⟨#[32, 116, 111, 32]⟩ : ByteArray)) ++ t314) ++ (⟨#[32, 112, 114, 111, 116, 111, 32]⟩ : ByteArray)) ++ x3_3) ++ (⟨#[32, 115, 112, 111, 114, 116, 32]⟩ : ByteArray)) ++ t315) ++ (⟨#[45]⟩ : ByteArray)) ++ t316) ++ (⟨#[32, 100, 112, 111, 114, 116, 32]⟩ : ByteArray)) ++ t317) ++ (⟨#[45]⟩ : ByteArray)) ++ t318) ++ (⟨#[32, 116, 101, 110, 97, 110, 116, 32]⟩ : ByteArray)).size + t319.size ≤ 9223372036854775807 then (if ((((((((((((((((t312 ++ (⟨#[32, 102, 114, 111, 109, 32]⟩ : ByteArray)) ++ t313) ++ (⟨#[32, 116, 111, 32]⟩ : ByteArray)) ++ t314) ++ (⟨#[32, 112, 114, 111, 116, 111, 32]⟩ : ByteArray)) ++ x3_3) ++ (⟨#[32, 115, 112, 111, 114, 116, 32]⟩ : ByteArray)) ++ t315) ++ (⟨#[45]⟩ : ByteArray)) ++ t316) ++ (⟨#[32, 100, 112, 111, 114, 116, 32]⟩ : ByteArray)) ++ t317) ++ (⟨#[45]⟩ : ByteArray)) ++ t318) ++ (⟨#[32, 116, 101, 110, 97, 110, 116, 32]⟩ : ByteArray)) ++ t319).size + 8 ≤ 9223372036854775807 then ((spec_NumText.f kj3 a0_19).bind fun t320 => (if (((((((((((((((((t312 ++ (⟨#[32, 102, 114, 111, 109, 32]⟩ : ByteArray)) ++ t313) ++ (⟨#[32, 116, 111, 32]⟩ : ByteArray)) ++ t314) ++ (⟨#[32, 112, 114, 111, 116, 111, 32]⟩ : ByteArray)) ++ x3_3) ++ (⟨#[32, 115, 112, 111, 114, 116, 32]⟩ : ByteArray)) ++ t315) ++ (⟨#[45]⟩ : ByteArray)) ++ t316) ++ (⟨#[32, 100, 112, 111, 114, 116, 32]⟩ : ByteArray)) ++ t317) ++ (⟨#[45]⟩ : ByteArray)) ++ t318) ++ (⟨#[32, 116, 101, 110, 97, 110, 116, 32]⟩ : ByteArray)) ++ t319) ++ (⟨#[32, 119, 101, 105, 103, 104, 116, 32]⟩ : ByteArray)).size + t320.size ≤ 9223372036854775807 then (if ((((((((((((((((((t312 ++ (⟨#[32, 102, 114, 111, 109, 32]⟩ : ByteArray)) ++ t313) ++ (⟨#[32, 116, 111, 32]⟩ : ByteArray)) ++ t314) ++ (⟨#[32, 112, 114, 111, 116, 111, 32]⟩ : ByteArray)) ++ x3_3) ++ (⟨#[32, 115, 112, 111, 114, 116, 32]⟩ : ByteArray)) ++ t315) ++ (⟨#[45]⟩ : ByteArray)) ++ t316) ++ (⟨#[32, 100, 112, 111, 114, 116, 32]⟩ : ByteArray)) ++ t317) ++ (⟨#[45]⟩ : ByteArray)) ++ t318) ++ (⟨#[32, 116, 101, 110, 97, 110, 116, 32]⟩ : ByteArray)) ++ t319) ++ (⟨#[32, 119, 101, 105, 103, 104, 116, 32]⟩ : ByteArray)) ++ t320).size + 7 ≤ 9223372036854775807 then ((spec_NumText.f kj3 a0_20).bind fun t321 => (if (((((((((((((((((((t312 ++ (⟨#[32, 102, 114, 111, 109, 32]⟩ : ByteArray)) ++ t313) ++ (⟨#[32, 116, 111, 32]⟩ : ByteArray)) ++ t314) ++ (⟨#[32, 112, 114, 111, 116, 111, 32]⟩ : ByteArray)) ++ x3_3) ++ (⟨#[32, 115, 112, 111, 114, 116, 32]⟩ : ByteArray)) ++ t315) ++ (⟨#[45]⟩ : ByteArray)) ++ t316) ++ (⟨#[32, 100, 112, 111, 114, 116, 32]⟩ : ByteArray)) ++ t317) ++ (⟨#[45]⟩ : ByteArray)) ++ t318) ++ (⟨#[32, 116, 101, 110, 97, 110, 116, 32]⟩ : ByteArray)) ++ t319) ++ (⟨#[32, 119, 101, 105, 103, 104, 116, 32]⟩ : ByteArray)) ++ t320) ++ (⟨#[32, 99, 104, 97, 105, 110, 32]⟩ : ByteArray)).size + t321.size ≤ 9223372036854775807 then (some ((((((((((((((((((((t312 ++ (⟨#[32, 102, 114, 111, 109, 32]⟩ : ByteArray)) ++ t313) ++ (⟨#[32, 116, 111, 32]⟩ : ByteArray)) ++ t314) ++ (⟨#[32, 112, 114, 111, 116, 111, 32]⟩ : ByteArray)) ++ x3_3) ++ (⟨#[32, 115, 112, 111, 114, 116, 32]⟩ : ByteArray)) ++ t315) ++ (⟨#[45]⟩ : ByteArray)) ++ t316) ++ (⟨#[32, 100, 112, 111, 114, 116, 32]⟩ : ByteArray)) ++ t317) ++ (⟨#[45]⟩ : ByteArray)) ++ t318) ++ (⟨#[32, 116, 101, 110, 97, 110, 116, 32]⟩ : ByteArray)) ++ t319) ++ (⟨#[32, 119, 101, 105, 103, 104, 116, 32]⟩ : ByteArray)) ++ t320) ++ (⟨#[32, 99, 104, 97, 105, 110, 32]⟩ : ByteArray)) ++ t321)) else (none))) else (none)) else (none))) else (none)) else (none))) else (none)) else (none))) else (none)) else (none))) else (none)) else (none))) else (none)) else (none)) = some r := H
           have A23 := Gv.a0 A230
           clear A230
           by_cases c24 : (((((((t312 ++ (⟨#[32, 102, 114, 111, 109, 32]⟩ : ByteArray)) ++ t313) ++ (⟨#[32, 116, 111, 32]⟩ : ByteArray)) ++ t314) ++ (⟨#[32, 112, 114, 111, 116, 111, 32]⟩ : ByteArray)) ++ x3_3) ++ (⟨#[32, 115, 112, 111, 114, 116, 32]⟩ : ByteArray)).size + t315.size ≤ 9223372036854775807
           ·rw [if_pos c24] at H
            have c24b0 := eq_true c24
            have c24b1 : decide ((((((((t312 ++ (⟨#[32, 102, 114, 111, 109, 32]⟩ : ByteArray)) ++ t313) ++ (⟨#[32, 116, 111, 32]⟩ : ByteArray)) ++ t314) ++ (⟨#[32, 112, 114, 111, 116, 111, 32]⟩ : ByteArray)) ++ x3_3) ++ (⟨#[32, 115, 112, 111, 114, 116, 32]⟩ : ByteArray)).size + t315.size ≤ 9223372036854775807) = true := decide_eq_true c24
            have c24s : t312.size + 6 + t313.size + 4 + t314.size + 7 + x3_3.size + 7 + t315.size ≤ 9223372036854775807 := (by have h_ := c24; simp only [ByteArray.size_append] at h_; exact h_)
            have c24b3 := eq_true c24s
            have c24b4 : decide (t312.size + 6 + t313.size + 4 + t314.size + 7 + x3_3.size + 7 + t315.size ≤ 9223372036854775807) = true := decide_eq_true c24s
            have c24b5 : (9223372036854775807 < t312.size + 6 + t313.size + 4 + t314.size + 7 + x3_3.size + 7 + t315.size) = False := eq_false (Nat.not_lt.2 c24s)
            clear c24s
            try have c24b2 : (9223372036854775807 < (((((((t312 ++ (⟨#[32, 102, 114, 111, 109, 32]⟩ : ByteArray)) ++ t313) ++ (⟨#[32, 116, 111, 32]⟩ : ByteArray)) ++ t314) ++ (⟨#[32, 112, 114, 111, 116, 111, 32]⟩ : ByteArray)) ++ x3_3) ++ (⟨#[32, 115, 112, 111, 114, 116, 32]⟩ : ByteArray)).size + t315.size) = False := eq_false (Nat.not_lt.2 c24)
            by_cases c25 : ((((((((t312 ++ (⟨#[32, 102, 114, 111, 109, 32]⟩ : ByteArray)) ++ t313) ++ (⟨#[32, 116, 111, 32]⟩ : ByteArray)) ++ t314) ++ (⟨#[32, 112, 114, 111, 116, 111, 32]⟩ : ByteArray)) ++ x3_3) ++ (⟨#[32, 115, 112, 111, 114, 116, 32]⟩ : ByteArray)) ++ t315).size + 1 ≤ 9223372036854775807
            ·rw [if_pos c25] at H
             have c25b0 := eq_true c25
             have c25b1 : decide (((((((((t312 ++ (⟨#[32, 102, 114, 111, 109, 32]⟩ : ByteArray)) ++ t313) ++ (⟨#[32, 116, 111, 32]⟩ : ByteArray)) ++ t314) ++ (⟨#[32, 112, 114, 111, 116, 111, 32]⟩ : ByteArray)) ++ x3_3) ++ (⟨#[32, 115, 112, 111, 114, 116, 32]⟩ : ByteArray)) ++ t315).size + 1 ≤ 9223372036854775807) = true := decide_eq_true c25
             have c25s : t312.size + 6 + t313.size + 4 + t314.size + 7 + x3_3.size + 7 + t315.size + 1 ≤ 9223372036854775807 := (by have h_ := c25; simp only [ByteArray.size_append] at h_; exact h_)
             have c25b3 := eq_true c25s
             have c25b4 : decide (t312.size + 6 + t313.size + 4 + t314.size + 7 + x3_3.size + 7 + t315.size + 1 ≤ 9223372036854775807) = true := decide_eq_true c25s
             have c25b5 : (9223372036854775807 < t312.size + 6 + t313.size + 4 + t314.size + 7 + x3_3.size + 7 + t315.size + 1) = False := eq_false (Nat.not_lt.2 c25s)
             clear c25s
             try have c25b2 : (9223372036854775807 < ((((((((t312 ++ (⟨#[32, 102, 114, 111, 109, 32]⟩ : ByteArray)) ++ t313) ++ (⟨#[32, 116, 111, 32]⟩ : ByteArray)) ++ t314) ++ (⟨#[32, 112, 114, 111, 116, 111, 32]⟩ : ByteArray)) ++ x3_3) ++ (⟨#[32, 115, 112, 111, 114, 116, 32]⟩ : ByteArray)) ++ t315).size + 1) = False := eq_false (Nat.not_lt.2 c25)
             replace H := Option.bind_eq_some_iff.mp H
             obtain ⟨t316, A260, H⟩ := H
             replace H : (if (((((((((t312 ++ (⟨#[32, 102, 114, 111, 109, 32]⟩ : ByteArray)) ++ t313) ++ (⟨#[32, 116, 111, 32]⟩ : ByteArray)) ++ t314) ++ (⟨#[32, 112, 114, 111, 116, 111, 32]⟩ : ByteArray)) ++ x3_3) ++ (⟨#[32, 115, 112, 111, 114, 116, 32]⟩ : ByteArray)) ++ t315) ++ (⟨#[45]⟩ : ByteArray)).size + t316.size ≤ 9223372036854775807 then (if ((((((((((t312 ++ (⟨#[32, 102, 114, 111, 109, 32]⟩ : ByteArray)) ++ t313) ++ (⟨#[32, 116, 111, 32]⟩ : ByteArray)) ++ t314) ++ (⟨#[32, 112, 114, 111, 116, 111, 32]⟩ : ByteArray)) ++ x3_3) ++ (⟨#[32, 115, 112, 111, 114, 116, 32]⟩ : ByteArray)) ++ t315) ++ (⟨#[45]⟩ : ByteArray)) ++ t316).size + 7 ≤ 9223372036854775807 then ((spec_NumText.f kj3 a0_16).bind fun t317 => (if (((((((((((t312 ++ (⟨#[32, 102, 114, 111, 109, 32]⟩ : ByteArray)) ++ t313) ++ (⟨#[32, 116, 111, 32]⟩ : ByteArray)) ++ t314) ++ (⟨#[32, 112, 114, 111, 116, 111, 32]⟩ : ByteArray)) ++ x3_3) ++ (⟨#[32, 115, 112, 111, 114, 116, 32]⟩ : ByteArray)) ++ t315) ++ (⟨#[45]⟩ : ByteArray)) ++ t316) ++ (⟨#[32, 100, 112, 111, 114, 116, 32]⟩ : ByteArray)).size + t317.size ≤ 9223372036854775807 then (if ((((((((((((t312 ++ (⟨#[32, 102, 114, 111, 109, 32]⟩ : ByteArray)) ++ t313) ++ (⟨#[32, 116, 111, 32]⟩ : ByteArray)) ++ t314) ++ (⟨#[32, 112, 114, 111, 116, 111, 32]⟩ : ByteArray)) ++ x3_3) ++ (⟨#[32, 115, 112, 111, 114, 116, 32]⟩ : ByteArray)) ++ t315) ++ (⟨#[45]⟩ : ByteArray)) ++ t316) ++ (⟨#[32, 100, 112, 111, 114, 116, 32]⟩ : ByteArray)) ++ t317).size + 1 ≤ 9223372036854775807 then ((spec_NumText.f kj3 a0_17).bind fun t318 => (if (((((((((((((t312 ++ (⟨#[32, 102, 114, 111, 109, 32]⟩ : ByteArray)) ++ t313) ++ (⟨#[32, 116, 111, 32]⟩ : ByteArray)) ++ t314) ++ (⟨#[32, 112, 114, 111, 116, 111, 32]⟩ : ByteArray)) ++ x3_3) ++ (⟨#[32, 115, 112, 111, 114, 116, 32]⟩ : ByteArray)) ++ t315) ++ (⟨#[45]⟩ : ByteArray)) ++ t316) ++ (⟨#[32, 100, 112, 111, 114, 116, 32]⟩ : ByteArray)) ++ t317) ++ (⟨#[45]⟩ : ByteArray)).size + t318.size ≤ 9223372036854775807 then (if ((((((((((((((t312 ++ (⟨#[32, 102, 114, 111, 109, 32]⟩ : ByteArray)) ++ t313) ++ (⟨#[32, 116, 111, 32]⟩ : ByteArray)) ++ t314) ++ (⟨#[32, 112, 114, 111, 116, 111, 32]⟩ : ByteArray)) ++ x3_3) ++ (⟨#[32, 115, 112, 111, 114, 116, 32]⟩ : ByteArray)) ++ t315) ++ (⟨#[45]⟩ : ByteArray)) ++ t316) ++ (⟨#[32, 100, 112, 111, 114, 116, 32]⟩ : ByteArray)) ++ t317) ++ (⟨#[45]⟩ : ByteArray)) ++ t318).size + 8 ≤ 9223372036854775807 then ((spec_NumText.f kj3 a0_18).bind fun t319 => (if (((((((((((((((t312 ++ (⟨#[32, 102, 114, 111, 109, 32]⟩ : ByteArray)) ++ t313) ++ (⟨#[32, 116, 111, 32]⟩ : ByteArray)) ++ t314) ++ (⟨#[32, 112, 114, 111, 116, 111, 32]⟩ : ByteArray)) ++ x3_3) ++ (⟨#[32, 115, 112, 111, 114, 116, 32]⟩ : ByteArray)) ++ t315) ++ (⟨#[45]⟩ : ByteArray)) ++ t316) ++ (⟨#[32, 100, 112, 111, 114, 116, 32]⟩ : ByteArray)) ++ t317) ++ (⟨#[45]⟩ : ByteArray)) ++ t318) ++ (⟨#[32, 116, 101, 110, 97, 110, 116, 32]⟩ : ByteArray)).size + t319.size ≤ 9223372036854775807 then (if ((((((((((((((((t312 ++ (⟨#[32, 102, 114, 111, 109, 32]⟩ : ByteArray)) ++ t313) ++ (⟨#[32, 116, 111, 32]⟩ : ByteArray)) ++ t314) ++ (⟨#[32, 112, 114, 111, 116, 111, 32]⟩ : ByteArray)) ++ x3_3) ++ (⟨#[32, 115, 112, 111, 114, 116, 32]⟩ : ByteArray)) ++ t315) ++ (⟨#[45]⟩ : ByteArray)) ++ t316) ++ (⟨#[32, 100, 112, 111, 114, 116, 32]⟩ : ByteArray)) ++ t317) ++ (⟨#[45]⟩ : ByteArray)) ++ t318) ++ (⟨#[32, 116, 101, 110, 97, 110, 116, 32]⟩ : ByteArray)) ++ t319).size + 8 ≤ 9223372036854775807 then ((spec_NumText.f kj3 a0_19).bind fun t320 => (if (((((((((((((((((t312 ++ (⟨#[32, 102, 114, 111, 109, 32]⟩ : ByteArray)) ++ t313) ++ (⟨#[32, 116, 111, 32]⟩ : ByteArray)) ++ t314) ++ (⟨#[32, 112, 114, 111, 116, 111, 32]⟩ : ByteArray)) ++ x3_3) ++ (⟨#[32, 115, 112, 111, 114, 116, 32]⟩ : ByteArray)) ++ t315) ++ (⟨#[45]⟩ : ByteArray)) ++ t316) ++ (⟨#[32, 100, 112, 111, 114, 116, 32]⟩ : ByteArray)) ++ t317) ++ (⟨#[45]⟩ : ByteArray)) ++ t318) ++ (⟨#[32, 116, 101, 110, 97, 110, 116, 32]⟩ : ByteArray)) ++ t319) ++ (⟨#[32, 119, 101, 105, 103, 104, 116, 32]⟩ : ByteArray)).size + t320.size ≤ 9223372036854775807 then (if ((((((((((((((((((t312 ++ (⟨#[32, 102, 114, 111, 109, 32]⟩ : ByteArray)) ++ t313) ++ (⟨#[32, 116, 111, 32]⟩ : ByteArray)) ++ t314) ++ (⟨#[32, 112, 114, 111, 116, 111, 32]⟩ : ByteArray)) ++ x3_3) ++ (⟨#[32, 115, 112, 111, 114, 116, 32]⟩ : ByteArray)) ++ t315) ++ (⟨#[45]⟩ : ByteArray)) ++ t316) ++ (⟨#[32, 100, 112, 111, 114, 116, 32]⟩ : ByteArray)) ++ t317) ++ (⟨#[45]⟩ : ByteArray)) ++ t318) ++ (⟨#[32, 116, 101, 110, 97, 110, 116, 32]⟩ : ByteArray)) ++ t319) ++ (⟨#[32, 119, 101, 105, 103, 104, 116, 32]⟩ : ByteArray)) ++ t320).size + 7 ≤ 9223372036854775807 then ((spec_NumText.f kj3 a0_20).bind fun t321 => (if (((((((((((((((((((t312 ++ (⟨#[32, 102, 114, 111, 109, 32]⟩ : ByteArray)) ++ t313) ++ (⟨#[32, 116, 111, 32]⟩ : ByteArray)) ++ t314) ++ (⟨#[32, 112, 114, 111, 116, 111, 32]⟩ : ByteArray)) ++ x3_3) ++ (⟨#[32, 115, 112, 111, 114, 116, 32]⟩ : ByteArray)) ++ t315) ++ (⟨#[45]⟩ : ByteArray)) ++ t316) ++ (⟨#[32, 100, 112, 111, 114, 116, 32]⟩ : ByteArray)) ++ t317) ++ (⟨#[45]⟩ : ByteArray)) ++ t318) ++ (⟨#[32, 116, 101, 110, 97, 110, 116, 32]⟩ : ByteArray)) ++ t319) ++ (⟨#[32, 119, 101, 105, 103, 104, 116, 32]⟩ : ByteArray)) ++ t320) ++ (⟨#[32, 99, 104, 97, 105, 110, 32]⟩ : ByteArray)).size + t321.size ≤ 9223372036854775807 then (some ((((((((((((((((((((t312 ++ (⟨#[32, 102, 114, 111, 109, 32]⟩ : ByteArray)) ++ t313) ++ (⟨#[32, 116, 111, 32]⟩ : ByteArray)) ++ t314) ++ (⟨#[32, 112, 114, 111, 116, 111, 32]⟩ : ByteArray)) ++ x3_3) ++ (⟨#[32, 115, 112, 111, 114, 116, 32]⟩ : ByteArray)) ++ t315) ++ (⟨#[45]⟩ : ByteArray)) ++ t316) ++ (⟨#[32, 100, 112, 111, 114, 116, 32]⟩ : ByteArray)) ++ t317) ++ (⟨#[45]⟩ : ByteArray)) ++ t318) ++ (⟨#[32, 116, 101, 110, 97, 110, 116, 32]⟩ : ByteArray)) ++ t319) ++ (⟨#[32, 119, 101, 105, 103, 104, 116, 32]⟩ : ByteArray)) ++ t320) ++ (⟨#[32, 99, 104, 97, 105, 110, 32]⟩ : ByteArray)) ++ t321)) else (none))) else (none)) else (none))) else (none)) else (none))) else (none)) else (none))) else (none)) else (none))) else (none)) else (none)) = some r := H
             have A26 := Gv.a0 A260
             clear A260
             by_cases c27 : (((((((((t312 ++ (⟨#[32, 102, 114, 111, 109, 32]⟩ : ByteArray)) ++ t313) ++ (⟨#[32, 116, 111, 32]⟩ : ByteArray)) ++ t314) ++ (⟨#[32, 112, 114, 111, 116, 111, 32]⟩ : ByteArray)) ++ x3_3) ++ (⟨#[32, 115, 112, 111, 114, 116, 32]⟩ : ByteArray)) ++ t315) ++ (⟨#[45]⟩ : ByteArray)).size + t316.size ≤ 9223372036854775807
             ·rw [if_pos c27] at H
              have c27b0 := eq_true c27
              have c27b1 : decide ((((((((((t312 ++ (⟨#[32, 102, 114, 111, 109, 32]⟩ : ByteArray)) ++ t313) ++ (⟨#[32, 116, 111, 32]⟩ : ByteArray)) ++ t314) ++ (⟨#[32, 112, 114, 111, 116, 111, 32]⟩ : ByteArray)) ++ x3_3) ++ (⟨#[32, 115, 112, 111, 114, 116, 32]⟩ : ByteArray)) ++ t315) ++ (⟨#[45]⟩ : ByteArray)).size + t316.size ≤ 9223372036854775807) = true := decide_eq_true c27
              have c27s : t312.size + 6 + t313.size + 4 + t314.size + 7 + x3_3.size + 7 + t315.size + 1 + t316.size ≤ 9223372036854775807 := (by have h_ := c27; simp only [ByteArray.size_append] at h_; exact h_)
              have c27b3 := eq_true c27s
              have c27b4 : decide (t312.size + 6 + t313.size + 4 + t314.size + 7 + x3_3.size + 7 + t315.size + 1 + t316.size ≤ 9223372036854775807) = true := decide_eq_true c27s
              have c27b5 : (9223372036854775807 < t312.size + 6 + t313.size + 4 + t314.size + 7 + x3_3.size + 7 + t315.size + 1 + t316.size) = False := eq_false (Nat.not_lt.2 c27s)
              clear c27s
              try have c27b2 : (9223372036854775807 < (((((((((t312 ++ (⟨#[32, 102, 114, 111, 109, 32]⟩ : ByteArray)) ++ t313) ++ (⟨#[32, 116, 111, 32]⟩ : ByteArray)) ++ t314) ++ (⟨#[32, 112, 114, 111, 116, 111, 32]⟩ : ByteArray)) ++ x3_3) ++ (⟨#[32, 115, 112, 111, 114, 116, 32]⟩ : ByteArray)) ++ t315) ++ (⟨#[45]⟩ : ByteArray)).size + t316.size) = False := eq_false (Nat.not_lt.2 c27)
              by_cases c28 : ((((((((((t312 ++ (⟨#[32, 102, 114, 111, 109, 32]⟩ : ByteArray)) ++ t313) ++ (⟨#[32, 116, 111, 32]⟩ : ByteArray)) ++ t314) ++ (⟨#[32, 112, 114, 111, 116, 111, 32]⟩ : ByteArray)) ++ x3_3) ++ (⟨#[32, 115, 112, 111, 114, 116, 32]⟩ : ByteArray)) ++ t315) ++ (⟨#[45]⟩ : ByteArray)) ++ t316).size + 7 ≤ 9223372036854775807
              ·rw [if_pos c28] at H
               have c28b0 := eq_true c28
               have c28b1 : decide (((((((((((t312 ++ (⟨#[32, 102, 114, 111, 109, 32]⟩ : ByteArray)) ++ t313) ++ (⟨#[32, 116, 111, 32]⟩ : ByteArray)) ++ t314) ++ (⟨#[32, 112, 114, 111, 116, 111, 32]⟩ : ByteArray)) ++ x3_3) ++ (⟨#[32, 115, 112, 111, 114, 116, 32]⟩ : ByteArray)) ++ t315) ++ (⟨#[45]⟩ : ByteArray)) ++ t316).size + 7 ≤ 9223372036854775807) = true := decide_eq_true c28
               have c28s : t312.size + 6 + t313.size + 4 + t314.size + 7 + x3_3.size + 7 + t315.size + 1 + t316.size + 7 ≤ 9223372036854775807 := (by have h_ := c28; simp only [ByteArray.size_append] at h_; exact h_)
               have c28b3 := eq_true c28s
               have c28b4 : decide (t312.size + 6 + t313.size + 4 + t314.size + 7 + x3_3.size + 7 + t315.size + 1 + t316.size + 7 ≤ 9223372036854775807) = true := decide_eq_true c28s
               have c28b5 : (9223372036854775807 < t312.size + 6 + t313.size + 4 + t314.size + 7 + x3_3.size + 7 + t315.size + 1 + t316.size + 7) = False := eq_false (Nat.not_lt.2 c28s)
               clear c28s
               try have c28b2 : (9223372036854775807 < ((((((((((t312 ++ (⟨#[32, 102, 114, 111, 109, 32]⟩ : ByteArray)) ++ t313) ++ (⟨#[32, 116, 111, 32]⟩ : ByteArray)) ++ t314) ++ (⟨#[32, 112, 114, 111, 116, 111, 32]⟩ : ByteArray)) ++ x3_3) ++ (⟨#[32, 115, 112, 111, 114, 116, 32]⟩ : ByteArray)) ++ t315) ++ (⟨#[45]⟩ : ByteArray)) ++ t316).size + 7) = False := eq_false (Nat.not_lt.2 c28)
               replace H := Option.bind_eq_some_iff.mp H
               obtain ⟨t317, A290, H⟩ := H
               replace H : (if (((((((((((t312 ++ (⟨#[32, 102, 114, 111, 109, 32]⟩ : ByteArray)) ++ t313) ++ (⟨#[32, 116, 111, 32]⟩ : ByteArray)) ++ t314) ++ (⟨#[32, 112, 114, 111, 116, 111, 32]⟩ : ByteArray)) ++ x3_3) ++ (⟨#[32, 115, 112, 111, 114, 116, 32]⟩ : ByteArray)) ++ t315) ++ (⟨#[45]⟩ : ByteArray)) ++ t316) ++ (⟨#[32, 100, 112, 111, 114, 116, 32]⟩ : ByteArray)).size + t317.size ≤ 9223372036854775807 then (if ((((((((((((t312 ++ (⟨#[32, 102, 114, 111, 109, 32]⟩ : ByteArray)) ++ t313) ++ (⟨#[32, 116, 111, 32]⟩ : ByteArray)) ++ t314) ++ (⟨#[32, 112, 114, 111, 116, 111, 32]⟩ : ByteArray)) ++ x3_3) ++ (⟨#[32, 115, 112, 111, 114, 116, 32]⟩ : ByteArray)) ++ t315) ++ (⟨#[45]⟩ : ByteArray)) ++ t316) ++ (⟨#[32, 100, 112, 111, 114, 116, 32]⟩ : ByteArray)) ++ t317).size + 1 ≤ 9223372036854775807 then ((spec_NumText.f kj3 a0_17).bind fun t318 => (if (((((((((((((t312 ++ (⟨#[32, 102, 114, 111, 109, 32]⟩ : ByteArray)) ++ t313) ++ (⟨#[32, 116, 111, 32]⟩ : ByteArray)) ++ t314) ++ (⟨#[32, 112, 114, 111, 116, 111, 32]⟩ : ByteArray)) ++ x3_3) ++ (⟨#[32, 115, 112, 111, 114, 116, 32]⟩ : ByteArray)) ++ t315) ++ (⟨#[45]⟩ : ByteArray)) ++ t316) ++ (⟨#[32, 100, 112, 111, 114, 116, 32]⟩ : ByteArray)) ++ t317) ++ (⟨#[45]⟩ : ByteArray)).size + t318.size ≤ 9223372036854775807 then (if ((((((((((((((t312 ++ (⟨#[32, 102, 114, 111, 109, 32]⟩ : ByteArray)) ++ t313) ++ (⟨#[32, 116, 111, 32]⟩ : ByteArray)) ++ t314) ++ (⟨#[32, 112, 114, 111, 116, 111, 32]⟩ : ByteArray)) ++ x3_3) ++ (⟨#[32, 115, 112, 111, 114, 116, 32]⟩ : ByteArray)) ++ t315) ++ (⟨#[45]⟩ : ByteArray)) ++ t316) ++ (⟨#[32, 100, 112, 111, 114, 116, 32]⟩ : ByteArray)) ++ t317) ++ (⟨#[45]⟩ : ByteArray)) ++ t318).size + 8 ≤ 9223372036854775807 then ((spec_NumText.f kj3 a0_18).bind fun t319 => (if (((((((((((((((t312 ++ (⟨#[32, 102, 114, 111, 109, 32]⟩ : ByteArray)) ++ t313) ++ (⟨#[32, 116, 111, 32]⟩ : ByteArray)) ++ t314) ++ (⟨#[32, 112, 114, 111, 116, 111, 32]⟩ : ByteArray)) ++ x3_3) ++ (⟨#[32, 115, 112, 111, 114, 116, 32]⟩ : ByteArray)) ++ t315) ++ (⟨#[45]⟩ : ByteArray)) ++ t316) ++ (⟨#[32, 100, 112, 111, 114, 116, 32]⟩ : ByteArray)) ++ t317) ++ (⟨#[45]⟩ : ByteArray)) ++ t318) ++ (⟨#[32, 116, 101, 110, 97, 110, 116, 32]⟩ : ByteArray)).size + t319.size ≤ 9223372036854775807 then (if ((((((((((((((((t312 ++ (⟨#[32, 102, 114, 111, 109, 32]⟩ : ByteArray)) ++ t313) ++ (⟨#[32, 116, 111, 32]⟩ : ByteArray)) ++ t314) ++ (⟨#[32, 112, 114, 111, 116, 111, 32]⟩ : ByteArray)) ++ x3_3) ++ (⟨#[32, 115, 112, 111, 114, 116, 32]⟩ : ByteArray)) ++ t315) ++ (⟨#[45]⟩ : ByteArray)) ++ t316) ++ (⟨#[32, 100, 112, 111, 114, 116, 32]⟩ : ByteArray)) ++ t317) ++ (⟨#[45]⟩ : ByteArray)) ++ t318) ++ (⟨#[32, 116, 101, 110, 97, 110, 116, 32]⟩ : ByteArray)) ++ t319).size + 8 ≤ 9223372036854775807 then ((spec_NumText.f kj3 a0_19).bind fun t320 => (if (((((((((((((((((t312 ++ (⟨#[32, 102, 114, 111, 109, 32]⟩ : ByteArray)) ++ t313) ++ (⟨#[32, 116, 111, 32]⟩ : ByteArray)) ++ t314) ++ (⟨#[32, 112, 114, 111, 116, 111, 32]⟩ : ByteArray)) ++ x3_3) ++ (⟨#[32, 115, 112, 111, 114, 116, 32]⟩ : ByteArray)) ++ t315) ++ (⟨#[45]⟩ : ByteArray)) ++ t316) ++ (⟨#[32, 100, 112, 111, 114, 116, 32]⟩ : ByteArray)) ++ t317) ++ (⟨#[45]⟩ : ByteArray)) ++ t318) ++ (⟨#[32, 116, 101, 110, 97, 110, 116, 32]⟩ : ByteArray)) ++ t319) ++ (⟨#[32, 119, 101, 105, 103, 104, 116, 32]⟩ : ByteArray)).size + t320.size ≤ 9223372036854775807 then (if ((((((((((((((((((t312 ++ (⟨#[32, 102, 114, 111, 109, 32]⟩ : ByteArray)) ++ t313) ++ (⟨#[32, 116, 111, 32]⟩ : ByteArray)) ++ t314) ++ (⟨#[32, 112, 114, 111, 116, 111, 32]⟩ : ByteArray)) ++ x3_3) ++ (⟨#[32, 115, 112, 111, 114, 116, 32]⟩ : ByteArray)) ++ t315) ++ (⟨#[45]⟩ : ByteArray)) ++ t316) ++ (⟨#[32, 100, 112, 111, 114, 116, 32]⟩ : ByteArray)) ++ t317) ++ (⟨#[45]⟩ : ByteArray)) ++ t318) ++ (⟨#[32, 116, 101, 110, 97, 110, 116, 32]⟩ : ByteArray)) ++ t319) ++ (⟨#[32, 119, 101, 105, 103, 104, 116, 32]⟩ : ByteArray)) ++ t320).size + 7 ≤ 9223372036854775807 then ((spec_NumText.f kj3 a0_20).bind fun t321 => (if (((((((((((((((((((t312 ++ (⟨#[32, 102, 114, 111, 109, 32]⟩ : ByteArray)) ++ t313) ++ (⟨#[32, 116, 111, 32]⟩ : ByteArray)) ++ t314) ++ (⟨#[32, 112, 114, 111, 116, 111, 32]⟩ : ByteArray)) ++ x3_3) ++ (⟨#[32, 115, 112, 111, 114, 116, 32]⟩ : ByteArray)) ++ t315) ++ (⟨#[45]⟩ : ByteArray)) ++ t316) ++ (⟨#[32, 100, 112, 111, 114, 116, 32]⟩ : ByteArray)) ++ t317) ++ (⟨#[45]⟩ : ByteArray)) ++ t318) ++ (⟨#[32, 116, 101, 110, 97, 110, 116, 32]⟩ : ByteArray)) ++ t319) ++ (⟨#[32, 119, 101, 105, 103, 104, 116, 32]⟩ : ByteArray)) ++ t320) ++ (⟨#[32, 99, 104, 97, 105, 110, 32]⟩ : ByteArray)).size + t321.size ≤ 9223372036854775807 then (some ((((((((((((((((((((t312 ++ (⟨#[32, 102, 114, 111, 109, 32]⟩ : ByteArray)) ++ t313) ++ (⟨#[32, 116, 111, 32]⟩ : ByteArray)) ++ t314) ++ (⟨#[32, 112, 114, 111, 116, 111, 32]⟩ : ByteArray)) ++ x3_3) ++ (⟨#[32, 115, 112, 111, 114, 116, 32]⟩ : ByteArray)) ++ t315) ++ (⟨#[45]⟩ : ByteArray)) ++ t316) ++ (⟨#[32, 100, 112, 111, 114, 116, 32]⟩ : ByteArray)) ++ t317) ++ (⟨#[45]⟩ : ByteArray)) ++ t318) ++ (⟨#[32, 116, 101, 110, 97, 110, 116, 32]⟩ : ByteArray)) ++ t319) ++ (⟨#[32, 119, 101, 105, 103, 104, 116, 32]⟩ : ByteArray)) ++ t320) ++ (⟨#[32, 99, 104, 97, 105, 110, 32]⟩ : ByteArray)) ++ t321)) else (none))) else (none)) else (none))) else (none)) else (none))) else (none)) else (none))) else (none)) else (none)) = some r := H
               have A29 := Gv.a0 A290
               clear A290
               by_cases c30 : (((((((((((t312 ++ (⟨#[32, 102, 114, 111, 109, 32]⟩ : ByteArray)) ++ t313) ++ (⟨#[32, 116, 111, 32]⟩ : ByteArray)) ++ t314) ++ (⟨#[32, 112, 114, 111, 116, 111, 32]⟩ : ByteArray)) ++ x3_3) ++ (⟨#[32, 115, 112, 111, 114, 116, 32]⟩ : ByteArray)) ++ t315) ++ (⟨#[45]⟩ : ByteArray)) ++ t316) ++ (⟨#[32, 100, 112, 111, 114, 116, 32]⟩ : ByteArray)).size + t317.size ≤ 9223372036854775807
               ·rw [if_pos c30] at H
                have c30b0 := eq_true c30
                have c30b1 : decide ((((((((((((t312 ++ (⟨#[32, 102, 114, 111, 109, 32]⟩ : ByteArray)) ++ t313) ++ (⟨#[32, 116, 111, 32]⟩ : ByteArray)) ++ t314) ++ (⟨#[32, 112, 114, 111, 116, 111, 32]⟩ : ByteArray)) ++ x3_3) ++ (⟨#[32, 115, 112, 111, 114, 116, 32]⟩ : ByteArray)) ++ t315) ++ (⟨#[45]⟩ : ByteArray)) ++ t316) ++ (⟨#[32, 100, 112, 111, 114, 116, 32]⟩ : ByteArray)).size + t317.size ≤ 9223372036854775807) = true := decide_eq_true c30
                have c30s : t312.size + 6 + t313.size + 4 + t314.size + 7 + x3_3.size + 7 + t315.size + 1 + t316.size + 7 + t317.size ≤ 9223372036854775807 := (by have h_ := c30; simp only [ByteArray.size_append] at h_; exact h_)
                have c30b3 := eq_true c30s
                have c30b4 : decide (t312.size + 6 + t313.size + 4 + t314.size + 7 + x3_3.size + 7 + t315.size + 1 + t316.size + 7 + t317.size ≤ 9223372036854775807) = true := decide_eq_true c30s
                have c30b5 : (9223372036854775807 < t312.size + 6 + t313.size + 4 + t314.size + 7 + x3_3.size + 7 + t315.size + 1 + t316.size + 7 + t317.size) = False := eq_false (Nat.not_lt.2 c30s)
                clear c30s
                try have c30b2 : (9223372036854775807 < (((((((((((t312 ++ (⟨#[32, 102, 114, 111, 109, 32]⟩ : ByteArray)) ++ t313) ++ (⟨#[32, 116, 111, 32]⟩ : ByteArray)) ++ t314) ++ (⟨#[32, 112, 114, 111, 116, 111, 32]⟩ : ByteArray)) ++ x3_3) ++ (⟨#[32, 115, 112, 111, 114, 116, 32]⟩ : ByteArray)) ++ t315) ++ (⟨#[45]⟩ : ByteArray)) ++ t316) ++ (⟨#[32, 100, 112, 111, 114, 116, 32]⟩ : ByteArray)).size + t317.size) = False := eq_false (Nat.not_lt.2 c30)
                by_cases c31 : ((((((((((((t312 ++ (⟨#[32, 102, 114, 111, 109, 32]⟩ : ByteArray)) ++ t313) ++ (⟨#[32, 116, 111, 32]⟩ : ByteArray)) ++ t314) ++ (⟨#[32, 112, 114, 111, 116, 111, 32]⟩ : ByteArray)) ++ x3_3) ++ (⟨#[32, 115, 112, 111, 114, 116, 32]⟩ : ByteArray)) ++ t315) ++ (⟨#[45]⟩ : ByteArray)) ++ t316) ++ (⟨#[32, 100, 112, 111, 114, 116, 32]⟩ : ByteArray)) ++ t317).size + 1 ≤ 9223372036854775807
                ·rw [if_pos c31] at H
                 have c31b0 := eq_true c31
                 have c31b1 : decide (((((((((((((t312 ++ (⟨#[32, 102, 114, 111, 109, 32]⟩ : ByteArray)) ++ t313) ++ (⟨#[32, 116, 111, 32]⟩ : ByteArray)) ++ t314) ++ (⟨#[32, 112, 114, 111, 116, 111, 32]⟩ : ByteArray)) ++ x3_3) ++ (⟨#[32, 115, 112, 111, 114, 116, 32]⟩ : ByteArray)) ++ t315) ++ (⟨#[45]⟩ : ByteArray)) ++ t316) ++ (⟨#[32, 100, 112, 111, 114, 116, 32]⟩ : ByteArray)) ++ t317).size + 1 ≤ 9223372036854775807) = true := decide_eq_true c31
                 have c31s : t312.size + 6 + t313.size + 4 + t314.size + 7 + x3_3.size + 7 + t315.size + 1 + t316.size + 7 + t317.size + 1 ≤ 9223372036854775807 := (by have h_ := c31; simp only [ByteArray.size_append] at h_; exact h_)
                 have c31b3 := eq_true c31s
                 have c31b4 : decide (t312.size + 6 + t313.size + 4 + t314.size + 7 + x3_3.size + 7 + t315.size + 1 + t316.size + 7 + t317.size + 1 ≤ 9223372036854775807) = true := decide_eq_true c31s
                 have c31b5 : (9223372036854775807 < t312.size + 6 + t313.size + 4 + t314.size + 7 + x3_3.size + 7 + t315.size + 1 + t316.size + 7 + t317.size + 1) = False := eq_false (Nat.not_lt.2 c31s)
                 clear c31s
                 try have c31b2 : (9223372036854775807 < ((((((((((((t312 ++ (⟨#[32, 102, 114, 111, 109, 32]⟩ : ByteArray)) ++ t313) ++ (⟨#[32, 116, 111, 32]⟩ : ByteArray)) ++ t314) ++ (⟨#[32, 112, 114, 111, 116, 111, 32]⟩ : ByteArray)) ++ x3_3) ++ (⟨#[32, 115, 112, 111, 114, 116, 32]⟩ : ByteArray)) ++ t315) ++ (⟨#[45]⟩ : ByteArray)) ++ t316) ++ (⟨#[32, 100, 112, 111, 114, 116, 32]⟩ : ByteArray)) ++ t317).size + 1) = False := eq_false (Nat.not_lt.2 c31)
                 replace H := Option.bind_eq_some_iff.mp H
                 obtain ⟨t318, A320, H⟩ := H
                 replace H : (if (((((((((((((t312 ++ (⟨#[32, 102, 114, 111, 109, 32]⟩ : ByteArray)) ++ t313) ++ (⟨#[32, 116, 111, 32]⟩ : ByteArray)) ++ t314) ++ (⟨#[32, 112, 114, 111, 116, 111, 32]⟩ : ByteArray)) ++ x3_3) ++ (⟨#[32, 115, 112, 111, 114, 116, 32]⟩ : ByteArray)) ++ t315) ++ (⟨#[45]⟩ : ByteArray)) ++ t316) ++ (⟨#[32, 100, 112, 111, 114, 116, 32]⟩ : ByteArray)) ++ t317) ++ (⟨#[45]⟩ : ByteArray)).size + t318.size ≤ 9223372036854775807 then (if ((((((((((((((t312 ++ (⟨#[32, 102, 114, 111, 109, 32]⟩ : ByteArray)) ++ t313) ++ (⟨#[32, 116, 111, 32]⟩ : ByteArray)) ++ t314) ++ (⟨#[32, 112, 114, 111, 116, 111, 32]⟩ : ByteArray)) ++ x3_3) ++ (⟨#[32, 115, 112, 111, 114, 116, 32]⟩ : ByteArray)) ++ t315) ++ (⟨#[45]⟩ : ByteArray)) ++ t316) ++ (⟨#[32, 100, 112, 111, 114, 116, 32]⟩ : ByteArray)) ++ t317) ++ (⟨#[45]⟩ : ByteArray)) ++ t318).size + 8 ≤ 9223372036854775807 then ((spec_NumText.f kj3 a0_18).bind fun t319 => (if (((((((((((((((t312 ++ (⟨#[32, 102, 114, 111, 109, 32]⟩ : ByteArray)) ++ t313) ++ (⟨#[32, 116, 111, 32]⟩ : ByteArray)) ++ t314) ++ (⟨#[32, 112, 114, 111, 116, 111, 32]⟩ : ByteArray)) ++ x3_3) ++ (⟨#[32, 115, 112, 111, 114, 116, 32]⟩ : ByteArray)) ++ t315) ++ (⟨#[45]⟩ : ByteArray)) ++ t316) ++ (⟨#[32, 100, 112, 111, 114, 116, 32]⟩ : ByteArray)) ++ t317) ++ (⟨#[45]⟩ : ByteArray)) ++ t318) ++ (⟨#[32, 116, 101, 110, 97, 110, 116, 32]⟩ : ByteArray)).size + t319.size ≤ 9223372036854775807 then (if ((((((((((((((((t312 ++ (⟨#[32, 102, 114, 111, 109, 32]⟩ : ByteArray)) ++ t313) ++ (⟨#[32, 116, 111, 32]⟩ : ByteArray)) ++ t314) ++ (⟨#[32, 112, 114, 111, 116, 111, 32]⟩ : ByteArray)) ++ x3_3) ++ (⟨#[32, 115, 112, 111, 114, 116, 32]⟩ : ByteArray)) ++ t315) ++ (⟨#[45]⟩ : ByteArray)) ++ t316) ++ (⟨#[32, 100, 112, 111, 114, 116, 32]⟩ : ByteArray)) ++ t317) ++ (⟨#[45]⟩ : ByteArray)) ++ t318) ++ (⟨#[32, 116, 101, 110, 97, 110, 116, 32]⟩ : ByteArray)) ++ t319).size + 8 ≤ 9223372036854775807 then ((spec_NumText.f kj3 a0_19).bind fun t320 => (if (((((((((((((((((t312 ++ (⟨#[32, 102, 114, 111, 109, 32]⟩ : ByteArray)) ++ t313) ++ (⟨#[32, 116, 111, 32]⟩ : ByteArray)) ++ t314) ++ (⟨#[32, 112, 114, 111, 116, 111, 32]⟩ : ByteArray)) ++ x3_3) ++ (⟨#[32, 115, 112, 111, 114, 116, 32]⟩ : ByteArray)) ++ t315) ++ (⟨#[45]⟩ : ByteArray)) ++ t316) ++ (⟨#[32, 100, 112, 111, 114, 116, 32]⟩ : ByteArray)) ++ t317) ++ (⟨#[45]⟩ : ByteArray)) ++ t318) ++ (⟨#[32, 116, 101, 110, 97, 110, 116, 32]⟩ : ByteArray)) ++ t319) ++ (⟨#[32, 119, 101, 105, 103, 104, 116, 32]⟩ : ByteArray)).size + t320.size ≤ 9223372036854775807 then (if ((((((((((((((((((t312 ++ (⟨#[32, 102, 114, 111, 109, 32]⟩ : ByteArray)) ++ t313) ++ (⟨#[32, 116, 111, 32]⟩ : ByteArray)) ++ t314) ++ (⟨#[32, 112, 114, 111, 116, 111, 32]⟩ : ByteArray)) ++ x3_3) ++ (⟨#[32, 115, 112, 111, 114, 116, 32]⟩ : ByteArray)) ++ t315) ++ (⟨#[45]⟩ : ByteArray)) ++ t316) ++ (⟨#[32, 100, 112, 111, 114, 116, 32]⟩ : ByteArray)) ++ t317) ++ (⟨#[45]⟩ : ByteArray)) ++ t318) ++ (⟨#[32, 116, 101, 110, 97, 110, 116, 32]⟩ : ByteArray)) ++ t319) ++ (⟨#[32, 119, 101, 105, 103, 104, 116, 32]⟩ : ByteArray)) ++ t320).size + 7 ≤ 9223372036854775807 then ((spec_NumText.f kj3 a0_20).bind fun t321 => (if (((((((((((((((((((t312 ++ (⟨#[32, 102, 114, 111, 109, 32]⟩ : ByteArray)) ++ t313) ++ (⟨#[32, 116, 111, 32]⟩ : ByteArray)) ++ t314) ++ (⟨#[32, 112, 114, 111, 116, 111, 32]⟩ : ByteArray)) ++ x3_3) ++ (⟨#[32, 115, 112, 111, 114, 116, 32]⟩ : ByteArray)) ++ t315) ++ (⟨#[45]⟩ : ByteArray)) ++ t316) ++ (⟨#[32, 100, 112, 111, 114, 116, 32]⟩ : ByteArray)) ++ t317) ++ (⟨#[45]⟩ : ByteArray)) ++ t318) ++ (⟨#[32, 116, 101, 110, 97, 110, 116, 32]⟩ : ByteArray)) ++ t319) ++ (⟨#[32, 119, 101, 105, 103, 104, 116, 32]⟩ : ByteArray)) ++ t320) ++ (⟨#[32, 99, 104, 97, 105, 110, 32]⟩ : ByteArray)).size + t321.size ≤ 9223372036854775807 then (some ((((((((((((((((((((t312 ++ (⟨#[32, 102, 114, 111, 109, 32]⟩ : ByteArray)) ++ t313) ++ (⟨#[32, 116, 111, 32]⟩ : ByteArray)) ++ t314) ++ (⟨#[32, 112, 114, 111, 116, 111, 32]⟩ : ByteArray)) ++ x3_3) ++ (⟨#[32, 115, 112, 111, 114, 116, 32]⟩ : ByteArray)) ++ t315) ++ (⟨#[45]⟩ : ByteArray)) ++ t316) ++ (⟨#[32, 100, 112, 111, 114, 116, 32]⟩ : ByteArray)) ++ t317) ++ (⟨#[45]⟩ : ByteArray)) ++ t318) ++ (⟨#[32, 116, 101, 110, 97, 110, 116, 32]⟩ : ByteArray)) ++ t319) ++ (⟨#[32, 119, 101, 105, 103, 104, 116, 32]⟩ : ByteArray)) ++ t320) ++ (⟨#[32, 99, 104, 97, 105, 110, 32]⟩ : ByteArray)) ++ t321)) else (none))) else (none)) else (none))) else (none)) else (none))) else (none)) else (none)) = some r := H
                 have A32 := Gv.a0 A320
                 clear A320
                 by_cases c33 : (((((((((((((t312 ++ (⟨#[32, 102, 114, 111, 109, 32]⟩ : ByteArray)) ++ t313) ++ (⟨#[32, 116, 111, 32]⟩ : ByteArray)) ++ t314) ++ (⟨#[32, 112, 114, 111, 116, 111, 32]⟩ : ByteArray)) ++ x3_3) ++ (⟨#[32, 115, 112, 111, 114, 116, 32]⟩ : ByteArray)) ++ t315) ++ (⟨#[45]⟩ : ByteArray)) ++ t316) ++ (⟨#[32, 100, 112, 111, 114, 116, 32]⟩ : ByteArray)) ++ t317) ++ (⟨#[45]⟩ : ByteArray)).size + t318.size ≤ 9223372036854775807
                 ·rw [if_pos c33] at H
                  have c33b0 := eq_true c33
                  have c33b1 : decide ((((((((((((((t312 ++ (⟨#[32, 102, 114, 111, 109, 32]⟩ : ByteArray)) ++ t313) ++ (⟨#[32, 116, 111, 32]⟩ : ByteArray)) ++ t314) ++ (⟨#[32, 112, 114, 111, 116, 111, 32]⟩ : ByteArray)) ++ x3_3) ++ (⟨#[32, 115, 112, 111, 114, 116, 32]⟩ : ByteArray)) ++ t315) ++ (⟨#[45]⟩ : ByteArray)) ++ t316) ++ (⟨#[32, 100, 112, 111, 114, 116, 32]⟩ : ByteArray)) ++ t317) ++ (⟨#[45]⟩ : ByteArray)).size + t318.size ≤ 9223372036854775807) = true := decide_eq_true c33
                  have c33s : t312.size + 6 + t313.size + 4 + t314.size + 7 + x3_3.size + 7 + t315.size + 1 + t316.size + 7 + t317.size + 1 + t318.size ≤ 9223372036854775807 := (by have h_ := c33; simp only [ByteArray.size_append] at h_; exact h_)
                  have c33b3 := eq_true c33s
                  have c33b4 : decide (t312.size + 6 + t313.size + 4 + t314.size + 7 + x3_3.size + 7 + t315.size + 1 + t316.size + 7 + t317.size + 1 + t318.size ≤ 9223372036854775807) = true := decide_eq_true c33s
                  have c33b5 : (9223372036854775807 < t312.size + 6 + t313.size + 4 + t314.size + 7 + x3_3.size + 7 + t315.size + 1 + t316.size + 7 + t317.size + 1 + t318.size) = False := eq_false (Nat.not_lt.2 c33s)
                  clear c33s
                  try have c33b2 : (9223372036854775807 < (((((((((((((t312 ++ (⟨#[32, 102, 114, 111, 109, 32]⟩ : ByteArray)) ++ t313) ++ (⟨#[32, 116, 111, 32]⟩ : ByteArray)) ++ t314) ++ (⟨#[32, 112, 114, 111, 116, 111, 32]⟩ : ByteArray)) ++ x3_3) ++ (⟨#[32, 115, 112, 111, 114, 116, 32]⟩ : ByteArray)) ++ t315) ++ (⟨#[45]⟩ : ByteArray)) ++ t316) ++ (⟨#[32, 100, 112, 111, 114, 116, 32]⟩ : ByteArray)) ++ t317) ++ (⟨#[45]⟩ : ByteArray)).size + t318.size) = False := eq_false (Nat.not_lt.2 c33)
                  by_cases c34 : ((((((((((((((t312 ++ (⟨#[32, 102, 114, 111, 109, 32]⟩ : ByteArray)) ++ t313) ++ (⟨#[32, 116, 111, 32]⟩ : ByteArray)) ++ t314) ++ (⟨#[32, 112, 114, 111, 116, 111, 32]⟩ : ByteArray)) ++ x3_3) ++ (⟨#[32, 115, 112, 111, 114, 116, 32]⟩ : ByteArray)) ++ t315) ++ (⟨#[45]⟩ : ByteArray)) ++ t316) ++ (⟨#[32, 100, 112, 111, 114, 116, 32]⟩ : ByteArray)) ++ t317) ++ (⟨#[45]⟩ : ByteArray)) ++ t318).size + 8 ≤ 9223372036854775807
                  ·rw [if_pos c34] at H
                   have c34b0 := eq_true c34
                   have c34b1 : decide (((((((((((((((t312 ++ (⟨#[32, 102, 114, 111, 109, 32]⟩ : ByteArray)) ++ t313) ++ (⟨#[32, 116, 111, 32]⟩ : ByteArray)) ++ t314) ++ (⟨#[32, 112, 114, 111, 116, 111, 32]⟩ : ByteArray)) ++ x3_3) ++ (⟨#[32, 115, 112, 111, 114, 116, 32]⟩ : ByteArray)) ++ t315) ++ (⟨#[45]⟩ : ByteArray)) ++ t316) ++ (⟨#[32, 100, 112, 111, 114, 116, 32]⟩ : ByteArray)) ++ t317) ++ (⟨#[45]⟩ : ByteArray)) ++ t318).size + 8 ≤ 9223372036854775807) = true := decide_eq_true c34
                   have c34s : t312.size + 6 + t313.size + 4 + t314.size + 7 + x3_3.size + 7 + t315.size + 1 + t316.size + 7 + t317.size + 1 + t318.size + 8 ≤ 9223372036854775807 := (by have h_ := c34; simp only [ByteArray.size_append] at h_; exact h_)
                   have c34b3 := eq_true c34s
                   have c34b4 : decide (t312.size + 6 + t313.size + 4 + t314.size + 7 + x3_3.size + 7 + t315.size + 1 + t316.size + 7 + t317.size + 1 + t318.size + 8 ≤ 9223372036854775807) = true := decide_eq_true c34s
                   have c34b5 : (9223372036854775807 < t312.size + 6 + t313.size + 4 + t314.size + 7 + x3_3.size + 7 + t315.size + 1 + t316.size + 7 + t317.size + 1 + t318.size + 8) = False := eq_false (Nat.not_lt.2 c34s)
                   clear c34s
                   try have c34b2 : (9223372036854775807 < ((((((((((((((t312 ++ (⟨#[32, 102, 114, 111, 109, 32]⟩ : ByteArray)) ++ t313) ++ (⟨#[32, 116, 111, 32]⟩ : ByteArray)) ++ t314) ++ (⟨#[32, 112, 114, 111, 116, 111, 32]⟩ : ByteArray)) ++ x3_3) ++ (⟨#[32, 115, 112, 111, 114, 116, 32]⟩ : ByteArray)) ++ t315) ++ (⟨#[45]⟩ : ByteArray)) ++ t316) ++ (⟨#[32, 100, 112, 111, 114, 116, 32]⟩ : ByteArray)) ++ t317) ++ (⟨#[45]⟩ : ByteArray)) ++ t318).size + 8) = False := eq_false (Nat.not_lt.2 c34)
                   replace H := Option.bind_eq_some_iff.mp H
                   obtain ⟨t319, A350, H⟩ := H
                   replace H : (if (((((((((((((((t312 ++ (⟨#[32, 102, 114, 111, 109, 32]⟩ : ByteArray)) ++ t313) ++ (⟨#[32, 116, 111, 32]⟩ : ByteArray)) ++ t314) ++ (⟨#[32, 112, 114, 111, 116, 111, 32]⟩ : ByteArray)) ++ x3_3) ++ (⟨#[32, 115, 112, 111, 114, 116, 32]⟩ : ByteArray)) ++ t315) ++ (⟨#[45]⟩ : ByteArray)) ++ t316) ++ (⟨#[32, 100, 112, 111, 114, 116, 32]⟩ : ByteArray)) ++ t317) ++ (⟨#[45]⟩ : ByteArray)) ++ t318) ++ (⟨#[32, 116, 101, 110, 97, 110, 116, 32]⟩ : ByteArray)).size + t319.size ≤ 9223372036854775807 then (if ((((((((((((((((t312 ++ (⟨#[32, 102, 114, 111, 109, 32]⟩ : ByteArray)) ++ t313) ++ (⟨#[32, 116, 111, 32]⟩ : ByteArray)) ++ t314) ++ (⟨#[32, 112, 114, 111, 116, 111, 32]⟩ : ByteArray)) ++ x3_3) ++ (⟨#[32, 115, 112, 111, 114, 116, 32]⟩ : ByteArray)) ++ t315) ++ (⟨#[45]⟩ : ByteArray)) ++ t316) ++ (⟨#[32, 100, 112, 111, 114, 116, 32]⟩ : ByteArray)) ++ t317) ++ (⟨#[45]⟩ : ByteArray)) ++ t318) ++ (⟨#[32, 116, 101, 110, 97, 110, 116, 32]⟩ : ByteArray)) ++ t319).size + 8 ≤ 9223372036854775807 then ((spec_NumText.f kj3 a0_19).bind fun t320 => (if (((((((((((((((((t312 ++ (⟨#[32, 102, 114, 111, 109, 32]⟩ : ByteArray)) ++ t313) ++ (⟨#[32, 116, 111, 32]⟩ : ByteArray)) ++ t314) ++ (⟨#[32, 112, 114, 111, 116, 111, 32]⟩ : ByteArray)) ++ x3_3) ++ (⟨#[32, 115, 112, 111, 114, 116, 32]⟩ : ByteArray)) ++ t315) ++ (⟨#[45]⟩ : ByteArray)) ++ t316) ++ (⟨#[32, 100, 112, 111, 114, 116, 32]⟩ : ByteArray)) ++ t317) ++ (⟨#[45]⟩ : ByteArray)) ++ t318) ++ (⟨#[32, 116, 101, 110, 97, 110, 116, 32]⟩ : ByteArray)) ++ t319) ++ (⟨#[32, 119, 101, 105, 103, 104, 116, 32]⟩ : ByteArray)).size + t320.size ≤ 9223372036854775807 then (if ((((((((((((((((((t312 ++ (⟨#[32, 102, 114, 111, 109, 32]⟩ : ByteArray)) ++ t313) ++ (⟨#[32, 116, 111, 32]⟩ : ByteArray)) ++ t314) ++ (⟨#[32, 112, 114, 111, 116, 111, 32]⟩ : ByteArray)) ++ x3_3) ++ (⟨#[32, 115, 112, 111, 114, 116, 32]⟩ : ByteArray)) ++ t315) ++ (⟨#[45]⟩ : ByteArray)) ++ t316) ++ (⟨#[32, 100, 112, 111, 114, 116, 32]⟩ : ByteArray)) ++ t317) ++ (⟨#[45]⟩ : ByteArray)) ++ t318) ++ (⟨#[32, 116, 101, 110, 97, 110, 116, 32]⟩ : ByteArray)) ++ t319) ++ (⟨#[32, 119, 101, 105, 103, 104, 116, 32]⟩ : ByteArray)) ++ t320).size + 7 ≤ 9223372036854775807 then ((spec_NumText.f kj3 a0_20).bind fun t321 => (if (((((((((((((((((((t312 ++ (⟨#[32, 102, 114, 111, 109, 32]⟩ : ByteArray)) ++ t313) ++ (⟨#[32, 116, 111, 32]⟩ : ByteArray)) ++ t314) ++ (⟨#[32, 112, 114, 111, 116, 111, 32]⟩ : ByteArray)) ++ x3_3) ++ (⟨#[32, 115, 112, 111, 114, 116, 32]⟩ : ByteArray)) ++ t315) ++ (⟨#[45]⟩ : ByteArray)) ++ t316) ++ (⟨#[32, 100, 112, 111, 114, 116, 32]⟩ : ByteArray)) ++ t317) ++ (⟨#[45]⟩ : ByteArray)) ++ t318) ++ (⟨#[32, 116, 101, 110, 97, 110, 116, 32]⟩ : ByteArray)) ++ t319) ++ (⟨#[32, 119, 101, 105, 103, 104, 116, 32]⟩ : ByteArray)) ++ t320) ++ (⟨#[32, 99, 104, 97, 105, 110, 32]⟩ : ByteArray)).size + t321.size ≤ 9223372036854775807 then (some ((((((((((((((((((((t312 ++ (⟨#[32, 102, 114, 111, 109, 32]⟩ : ByteArray)) ++ t313) ++ (⟨#[32, 116, 111, 32]⟩ : ByteArray)) ++ t314) ++ (⟨#[32, 112, 114, 111, 116, 111, 32]⟩ : ByteArray)) ++ x3_3) ++ (⟨#[32, 115, 112, 111, 114, 116, 32]⟩ : ByteArray)) ++ t315) ++ (⟨#[45]⟩ : ByteArray)) ++ t316) ++ (⟨#[32, 100, 112, 111, 114, 116, 32]⟩ : ByteArray)) ++ t317) ++ (⟨#[45]⟩ : ByteArray)) ++ t318) ++ (⟨#[32, 116, 101, 110, 97, 110, 116, 32]⟩ : ByteArray)) ++ t319) ++ (⟨#[32, 119, 101, 105, 103, 104, 116, 32]⟩ : ByteArray)) ++ t320) ++ (⟨#[32, 99, 104, 97, 105, 110, 32]⟩ : ByteArray)) ++ t321)) else (none))) else (none)) else (none))) else (none)) else (none)) = some r := H
                   have A35 := Gv.a0 A350
                   clear A350
                   by_cases c36 : (((((((((((((((t312 ++ (⟨#[32, 102, 114, 111, 109, 32]⟩ : ByteArray)) ++ t313) ++ (⟨#[32, 116, 111, 32]⟩ : ByteArray)) ++ t314) ++ (⟨#[32, 112, 114, 111, 116, 111, 32]⟩ : ByteArray)) ++ x3_3) ++ (⟨#[32, 115, 112, 111, 114, 116, 32]⟩ : ByteArray)) ++ t315) ++ (⟨#[45]⟩ : ByteArray)) ++ t316) ++ (⟨#[32, 100, 112, 111, 114, 116, 32]⟩ : ByteArray)) ++ t317) ++ (⟨#[45]⟩ : ByteArray)) ++ t318) ++ (⟨#[32, 116, 101, 110, 97, 110, 116, 32]⟩ : ByteArray)).size + t319.size ≤ 9223372036854775807
                   ·rw [if_pos c36] at H
                    have c36b0 := eq_true c36
                    have c36b1 : decide ((((((((((((((((t312 ++ (⟨#[32, 102, 114, 111, 109, 32]⟩ : ByteArray)) ++ t313) ++ (⟨#[32, 116, 111, 32]⟩ : ByteArray)) ++ t314) ++ (⟨#[32, 112, 114, 111, 116, 111, 32]⟩ : ByteArray)) ++ x3_3) ++ (⟨#[32, 115, 112, 111, 114, 116, 32]⟩ : ByteArray)) ++ t315) ++ (⟨#[45]⟩ : ByteArray)) ++ t316) ++ (⟨#[32, 100, 112, 111, 114, 116, 32]⟩ : ByteArray)) ++ t317) ++ (⟨#[45]⟩ : ByteArray)) ++ t318) ++ (⟨#[32, 116, 101, 110, 97, 110, 116, 32]⟩ : ByteArray)).size + t319.size ≤ 9223372036854775807) = true := decide_eq_true c36
                    have c36s : t312.size + 6 + t313.size + 4 + t314.size + 7 + x3_3.size + 7 + t315.size + 1 + t316.size + 7 + t317.size + 1 + t318.size + 8 + t319.size ≤ 9223372036854775807 := (by have h_ := c36; simp only [ByteArray.size_append] at h_; exact h_)
                    have c36b3 := eq_true c36s
                    have c36b4 : decide (t312.size + 6 + t313.size + 4 + t314.size + 7 + x3_3.size + 7 + t315.size + 1 + t316.size + 7 + t317.size + 1 + t318.size + 8 + t319.size ≤ 9223372036854775807) = true := decide_eq_true c36s
                    have c36b5 : (9223372036854775807 < t312.size + 6 + t313.size + 4 + t314.size + 7 + x3_3.size + 7 + t315.size + 1 + t316.size + 7 + t317.size + 1 + t318.size + 8 + t319.size) = False := eq_false (Nat.not_lt.2 c36s)
                    clear c36s
                    try have c36b2 : (9223372036854775807 < (((((((((((((((t312 ++ (⟨#[32, 102, 114, 111, 109, 32]⟩ : ByteArray)) ++ t313) ++ (⟨#[32, 116, 111, 32]⟩ : ByteArray)) ++ t314) ++ (⟨#[32, 112, 114, 111, 116, 111, 32]⟩ : ByteArray)) ++ x3_3) ++ (⟨#[32, 115, 112, 111, 114, 116, 32]⟩ : ByteArray)) ++ t315) ++ (⟨#[45]⟩ : ByteArray)) ++ t316) ++ (⟨#[32, 100, 112, 111, 114, 116, 32]⟩ : ByteArray)) ++ t317) ++ (⟨#[45]⟩ : ByteArray)) ++ t318) ++ (⟨#[32, 116, 101, 110, 97, 110, 116, 32]⟩ : ByteArray)).size + t319.size) = False := eq_false (Nat.not_lt.2 c36)
                    by_cases c37 : ((((((((((((((((t312 ++ (⟨#[32, 102, 114, 111, 109, 32]⟩ : ByteArray)) ++ t313) ++ (⟨#[32, 116, 111, 32]⟩ : ByteArray)) ++ t314) ++ (⟨#[32, 112, 114, 111, 116, 111, 32]⟩ : ByteArray)) ++ x3_3) ++ (⟨#[32, 115, 112, 111, 114, 116, 32]⟩ : ByteArray)) ++ t315) ++ (⟨#[45]⟩ : ByteArray)) ++ t316) ++ (⟨#[32, 100, 112, 111, 114, 116, 32]⟩ : ByteArray)) ++ t317) ++ (⟨#[45]⟩ : ByteArray)) ++ t318) ++ (⟨#[32, 116, 101, 110, 97, 110, 116, 32]⟩ : ByteArray)) ++ t319).size + 8 ≤ 9223372036854775807
                    ·rw [if_pos c37] at H
                     have c37b0 := eq_true c37
                     have c37b1 : decide (((((((((((((((((t312 ++ (⟨#[32, 102, 114, 111, 109, 32]⟩ : ByteArray)) ++ t313) ++ (⟨#[32, 116, 111, 32]⟩ : ByteArray)) ++ t314) ++ (⟨#[32, 112, 114, 111, 116, 111, 32]⟩ : ByteArray)) ++ x3_3) ++ (⟨#[32, 115, 112, 111, 114, 116, 32]⟩ : ByteArray)) ++ t315) ++ (⟨#[45]⟩ : ByteArray)) ++ t316) ++ (⟨#[32, 100, 112, 111, 114, 116, 32]⟩ : ByteArray)) ++ t317) ++ (⟨#[45]⟩ : ByteArray)) ++ t318) ++ (⟨#[32, 116, 101, 110, 97, 110, 116, 32]⟩ : ByteArray)) ++ t319).size + 8 ≤ 9223372036854775807) = true := decide_eq_true c37
                     have c37s : t312.size + 6 + t313.size + 4 + t314.size + 7 + x3_3.size + 7 + t315.size + 1 + t316.size + 7 + t317.size + 1 + t318.size + 8 + t319.size + 8 ≤ 9223372036854775807 := (by have h_ := c37; simp only [ByteArray.size_append] at h_; exact h_)
                     have c37b3 := eq_true c37s
                     have c37b4 : decide (t312.size + 6 + t313.size + 4 + t314.size + 7 + x3_3.size + 7 + t315.size + 1 + t316.size + 7 + t317.size + 1 + t318.size + 8 + t319.size + 8 ≤ 9223372036854775807) = true := decide_eq_true c37s
                     have c37b5 : (9223372036854775807 < t312.size + 6 + t313.size + 4 + t314.size + 7 + x3_3.size + 7 + t315.size + 1 + t316.size + 7 + t317.size + 1 + t318.size + 8 + t319.size + 8) = False := eq_false (Nat.not_lt.2 c37s)
                     clear c37s
                     try have c37b2 : (9223372036854775807 < ((((((((((((((((t312 ++ (⟨#[32, 102, 114, 111, 109, 32]⟩ : ByteArray)) ++ t313) ++ (⟨#[32, 116, 111, 32]⟩ : ByteArray)) ++ t314) ++ (⟨#[32, 112, 114, 111, 116, 111, 32]⟩ : ByteArray)) ++ x3_3) ++ (⟨#[32, 115, 112, 111, 114, 116, 32]⟩ : ByteArray)) ++ t315) ++ (⟨#[45]⟩ : ByteArray)) ++ t316) ++ (⟨#[32, 100, 112, 111, 114, 116, 32]⟩ : ByteArray)) ++ t317) ++ (⟨#[45]⟩ : ByteArray)) ++ t318) ++ (⟨#[32, 116, 101, 110, 97, 110, 116, 32]⟩ : ByteArray)) ++ t319).size + 8) = False := eq_false (Nat.not_lt.2 c37)
                     replace H := Option.bind_eq_some_iff.mp H
                     obtain ⟨t320, A380, H⟩ := H
                     replace H : (if (((((((((((((((((t312 ++ (⟨#[32, 102, 114, 111, 109, 32]⟩ : ByteArray)) ++ t313) ++ (⟨#[32, 116, 111, 32]⟩ : ByteArray)) ++ t314) ++ (⟨#[32, 112, 114, 111, 116, 111, 32]⟩ : ByteArray)) ++ x3_3) ++ (⟨#[32, 115, 112, 111, 114, 116, 32]⟩ : ByteArray)) ++ t315) ++ (⟨#[45]⟩ : ByteArray)) ++ t316) ++ (⟨#[32, 100, 112, 111, 114, 116, 32]⟩ : ByteArray)) ++ t317) ++ (⟨#[45]⟩ : ByteArray)) ++ t318) ++ (⟨#[32, 116, 101, 110, 97, 110, 116, 32]⟩ : ByteArray)) ++ t319) ++ (⟨#[32, 119, 101, 105, 103, 104, 116, 32]⟩ : ByteArray)).size + t320.size ≤ 9223372036854775807 then (if ((((((((((((((((((t312 ++ (⟨#[32, 102, 114, 111, 109, 32]⟩ : ByteArray)) ++ t313) ++ (⟨#[32, 116, 111, 32]⟩ : ByteArray)) ++ t314) ++ (⟨#[32, 112, 114, 111, 116, 111, 32]⟩ : ByteArray)) ++ x3_3) ++ (⟨#[32, 115, 112, 111, 114, 116, 32]⟩ : ByteArray)) ++ t315) ++ (⟨#[45]⟩ : ByteArray)) ++ t316) ++ (⟨#[32, 100, 112, 111, 114, 116, 32]⟩ : ByteArray)) ++ t317) ++ (⟨#[45]⟩ : ByteArray)) ++ t318) ++ (⟨#[32, 116, 101, 110, 97, 110, 116, 32]⟩ : ByteArray)) ++ t319) ++ (⟨#[32, 119, 101, 105, 103, 104, 116, 32]⟩ : ByteArray)) ++ t320).size + 7 ≤ 9223372036854775807 then ((spec_NumText.f kj3 a0_20).bind fun t321 => (if (((((((((((((((((((t312 ++ (⟨#[32, 102, 114, 111, 109, 32]⟩ : ByteArray)) ++ t313) ++ (⟨#[32, 116, 111, 32]⟩ : ByteArray)) ++ t314) ++ (⟨#[32, 112, 114, 111, 116, 111, 32]⟩ : ByteArray)) ++ x3_3) ++ (⟨#[32, 115, 112, 111, 114, 116, 32]⟩ : ByteArray)) ++ t315) ++ (⟨#[45]⟩ : ByteArray)) ++ t316) ++ (⟨#[32, 100, 112, 111, 114, 116, 32]⟩ : ByteArray)) ++ t317) ++ (⟨#[45]⟩ : ByteArray)) ++ t318) ++ (⟨#[32, 116, 101, 110, 97, 110, 116, 32]⟩ : ByteArray)) ++ t319) ++ (⟨#[32, 119, 101, 105, 103, 104, 116, 32]⟩ : ByteArray)) ++ t320) ++ (⟨#[32, 99, 104, 97, 105, 110, 32]⟩ : ByteArray)).size + t321.size ≤ 9223372036854775807 then (some ((((((((((((((((((((t312 ++ (⟨#[32, 102, 114, 111, 109, 32]⟩ : ByteArray)) ++ t313) ++ (⟨#[32, 116, 111, 32]⟩ : ByteArray)) ++ t314) ++ (⟨#[32, 112, 114, 111, 116, 111, 32]⟩ : ByteArray)) ++ x3_3) ++ (⟨#[32, 115, 112, 111, 114, 116, 32]⟩ : ByteArray)) ++ t315) ++ (⟨#[45]⟩ : ByteArray)) ++ t316) ++ (⟨#[32, 100, 112, 111, 114, 116, 32]⟩ : ByteArray)) ++ t317) ++ (⟨#[45]⟩ : ByteArray)) ++ t318) ++ (⟨#[32, 116, 101, 110, 97, 110, 116, 32]⟩ : ByteArray)) ++ t319) ++ (⟨#[32, 119, 101, 105, 103, 104, 116, 32]⟩ : ByteArray)) ++ t320) ++ (⟨#[32, 99, 104, 97, 105, 110, 32]⟩ : ByteArray)) ++ t321)) else (none))) else (none)) else (none)) = some r := H
                     have A38 := Gv.a0 A380
                     clear A380
                     by_cases c39 : (((((((((((((((((t312 ++ (⟨#[32, 102, 114, 111, 109, 32]⟩ : ByteArray)) ++ t313) ++ (⟨#[32, 116, 111, 32]⟩ : ByteArray)) ++ t314) ++ (⟨#[32, 112, 114, 111, 116, 111, 32]⟩ : ByteArray)) ++ x3_3) ++ (⟨#[32, 115, 112, 111, 114, 116, 32]⟩ : ByteArray)) ++ t315) ++ (⟨#[45]⟩ : ByteArray)) ++ t316) ++ (⟨#[32, 100, 112, 111, 114, 116, 32]⟩ : ByteArray)) ++ t317) ++ (⟨#[45]⟩ : ByteArray)) ++ t318) ++ (⟨#[32, 116, 101, 110, 97, 110, 116, 32]⟩ : ByteArray)) ++ t319) ++ (⟨#[32, 119, 101, 105, 103, 104, 116, 32]⟩ : ByteArray)).size + t320.size ≤ 9223372036854775807
                     ·rw [if_pos c39] at H
                      have c39b0 := eq_true c39
                      have c39b1 : decide ((((((((((((((((((t312 ++ (⟨#[32, 102, 114, 111, 109, 32]⟩ : ByteArray)) ++ t313) ++ (⟨#[32, 116, 111, 32]⟩ : ByteArray)) ++ t314) ++ (⟨#[32, 112, 114, 111, 116, 111, 32]⟩ : ByteArray)) ++ x3_3) ++ (⟨#[32, 115, 112, 111, 114, 116, 32]⟩ : ByteArray)) ++ t315) ++ (⟨#[45]⟩ : ByteArray)) ++ t316) ++ (⟨#[32, 100, 112, 111, 114, 116, 32]⟩ : ByteArray)) ++ t317) ++ (⟨#[45]⟩ : ByteArray)) ++ t318) ++ (⟨#[32, 116, 101, 110, 97, 110, 116, 32]⟩ : ByteArray)) ++ t319) ++ (⟨#[32, 119, 101, 105, 103, 104, 116, 32]⟩ : ByteArray)).size + t320.size ≤ 9223372036854775807) = true := decide_eq_true c39
                      have c39s : t312.size + 6 + t313.size + 4 + t314.size + 7 + x3_3.size + 7 + t315.size + 1 + t316.size + 7 + t317.size + 1 + t318.size + 8 + t319.size + 8 + t320.size ≤ 9223372036854775807 := (by have h_ := c39; simp only [ByteArray.size_append] at h_; exact h_)
                      have c39b3 := eq_true c39s
                      have c39b4 : decide (t312.size + 6 + t313.size + 4 + t314.size + 7 + x3_3.size + 7 + t315.size + 1 + t316.size + 7 + t317.size + 1 + t318.size + 8 + t319.size + 8 + t320.size ≤ 9223372036854775807) = true := decide_eq_true c39s
                      have c39b5 : (9223372036854775807 < t312.size + 6 + t313.size + 4 + t314.size + 7 + x3_3.size + 7 + t315.size + 1 + t316.size + 7 + t317.size + 1 + t318.size + 8 + t319.size + 8 + t320.size) = False := eq_false (Nat.not_lt.2 c39s)
                      clear c39s
                      try have c39b2 : (9223372036854775807 < (((((((((((((((((t312 ++ (⟨#[32, 102, 114, 111, 109, 32]⟩ : ByteArray)) ++ t313) ++ (⟨#[32, 116, 111, 32]⟩ : ByteArray)) ++ t314) ++ (⟨#[32, 112, 114, 111, 116, 111, 32]⟩ : ByteArray)) ++ x3_3) ++ (⟨#[32, 115, 112, 111, 114, 116, 32]⟩ : ByteArray)) ++ t315) ++ (⟨#[45]⟩ : ByteArray)) ++ t316) ++ (⟨#[32, 100, 112, 111, 114, 116, 32]⟩ : ByteArray)) ++ t317) ++ (⟨#[45]⟩ : ByteArray)) ++ t318) ++ (⟨#[32, 116, 101, 110, 97, 110, 116, 32]⟩ : ByteArray)) ++ t319) ++ (⟨#[32, 119, 101, 105, 103, 104, 116, 32]⟩ : ByteArray)).size + t320.size) = False := eq_false (Nat.not_lt.2 c39)
                      by_cases c40 : ((((((((((((((((((t312 ++ (⟨#[32, 102, 114, 111, 109, 32]⟩ : ByteArray)) ++ t313) ++ (⟨#[32, 116, 111, 32]⟩ : ByteArray)) ++ t314) ++ (⟨#[32, 112, 114, 111, 116, 111, 32]⟩ : ByteArray)) ++ x3_3) ++ (⟨#[32, 115, 112, 111, 114, 116, 32]⟩ : ByteArray)) ++ t315) ++ (⟨#[45]⟩ : ByteArray)) ++ t316) ++ (⟨#[32, 100, 112, 111, 114, 116, 32]⟩ : ByteArray)) ++ t317) ++ (⟨#[45]⟩ : ByteArray)) ++ t318) ++ (⟨#[32, 116, 101, 110, 97, 110, 116, 32]⟩ : ByteArray)) ++ t319) ++ (⟨#[32, 119, 101, 105, 103, 104, 116, 32]⟩ : ByteArray)) ++ t320).size + 7 ≤ 9223372036854775807
                      ·rw [if_pos c40] at H
                       have c40b0 := eq_true c40
                       have c40b1 : decide (((((((((((((((((((t312 ++ (⟨#[32, 102, 114, 111, 109, 32]⟩ : ByteArray)) ++ t313) ++ (⟨#[32, 116, 111, 32]⟩ : ByteArray)) ++ t314) ++ (⟨#[32, 112, 114, 111, 116, 111, 32]⟩ : ByteArray)) ++ x3_3) ++ (⟨#[32, 115, 112, 111, 114, 116, 32]⟩ : ByteArray)) ++ t315) ++ (⟨#[45]⟩ : ByteArray)) ++ t316) ++ (⟨#[32, 100, 112, 111, 114, 116, 32]⟩ : ByteArray)) ++ t317) ++ (⟨#[45]⟩ : ByteArray)) ++ t318) ++ (⟨#[32, 116, 101, 110, 97, 110, 116, 32]⟩ : ByteArray)) ++ t319) ++ (⟨#[32, 119, 101, 105, 103, 104, 116, 32]⟩ : ByteArray)) ++ t320).size + 7 ≤ 9223372036854775807) = true := decide_eq_true c40
                       have c40s : t312.size + 6 + t313.size + 4 + t314.size + 7 + x3_3.size + 7 + t315.size + 1 + t316.size + 7 + t317.size + 1 + t318.size + 8 + t319.size + 8 + t320.size + 7 ≤ 9223372036854775807 := (by have h_ := c40; simp only [ByteArray.size_append] at h_; exact h_)
                       have c40b3 := eq_true c40s
                       have c40b4 : decide (t312.size + 6 + t313.size + 4 + t314.size + 7 + x3_3.size + 7 + t315.size + 1 + t316.size + 7 + t317.size + 1 + t318.size + 8 + t319.size + 8 + t320.size + 7 ≤ 9223372036854775807) = true := decide_eq_true c40s
                       have c40b5 : (9223372036854775807 < t312.size + 6 + t313.size + 4 + t314.size + 7 + x3_3.size + 7 + t315.size + 1 + t316.size + 7 + t317.size + 1 + t318.size + 8 + t319.size + 8 + t320.size + 7) = False := eq_false (Nat.not_lt.2 c40s)
                       clear c40s
                       try have c40b2 : (9223372036854775807 < ((((((((((((((((((t312 ++ (⟨#[32, 102, 114, 111, 109, 32]⟩ : ByteArray)) ++ t313) ++ (⟨#[32, 116, 111, 32]⟩ : ByteArray)) ++ t314) ++ (⟨#[32, 112, 114, 111, 116, 111, 32]⟩ : ByteArray)) ++ x3_3) ++ (⟨#[32, 115, 112, 111, 114, 116, 32]⟩ : ByteArray)) ++ t315) ++ (⟨#[45]⟩ : ByteArray)) ++ t316) ++ (⟨#[32, 100, 112, 111, 114, 116, 32]⟩ : ByteArray)) ++ t317) ++ (⟨#[45]⟩ : ByteArray)) ++ t318) ++ (⟨#[32, 116, 101, 110, 97, 110, 116, 32]⟩ : ByteArray)) ++ t319) ++ (⟨#[32, 119, 101, 105, 103, 104, 116, 32]⟩ : ByteArray)) ++ t320).size + 7) = False := eq_false (Nat.not_lt.2 c40)
                       replace H := Option.bind_eq_some_iff.mp H
                       obtain ⟨t321, A410, H⟩ := H
                       replace H : (if (((((((((((((((((((t312 ++ (⟨#[32, 102, 114, 111, 109, 32]⟩ : ByteArray)) ++ t313) ++ (⟨#[32, 116, 111, 32]⟩ : ByteArray)) ++ t314) ++ (⟨#[32, 112, 114, 111, 116, 111, 32]⟩ : ByteArray)) ++ x3_3) ++ (⟨#[32, 115, 112, 111, 114, 116, 32]⟩ : ByteArray)) ++ t315) ++ (⟨#[45]⟩ : ByteArray)) ++ t316) ++ (⟨#[32, 100, 112, 111, 114, 116, 32]⟩ : ByteArray)) ++ t317) ++ (⟨#[45]⟩ : ByteArray)) ++ t318) ++ (⟨#[32, 116, 101, 110, 97, 110, 116, 32]⟩ : ByteArray)) ++ t319) ++ (⟨#[32, 119, 101, 105, 103, 104, 116, 32]⟩ : ByteArray)) ++ t320) ++ (⟨#[32, 99, 104, 97, 105, 110, 32]⟩ : ByteArray)).size + t321.size ≤ 9223372036854775807 then (some ((((((((((((((((((((t312 ++ (⟨#[32, 102, 114, 111, 109, 32]⟩ : ByteArray)) ++ t313) ++ (⟨#[32, 116, 111, 32]⟩ : ByteArray)) ++ t314) ++ (⟨#[32, 112, 114, 111, 116, 111, 32]⟩ : ByteArray)) ++ x3_3) ++ (⟨#[32, 115, 112, 111, 114, 116, 32]⟩ : ByteArray)) ++ t315) ++ (⟨#[45]⟩ : ByteArray)) ++ t316) ++ (⟨#[32, 100, 112, 111, 114, 116, 32]⟩ : ByteArray)) ++ t317) ++ (⟨#[45]⟩ : ByteArray)) ++ t318) ++ (⟨#[32, 116, 101, 110, 97, 110, 116, 32]⟩ : ByteArray)) ++ t319) ++ (⟨#[32, 119, 101, 105, 103, 104, 116, 32]⟩ : ByteArray)) ++ t320) ++ (⟨#[32, 99, 104, 97, 105, 110, 32]⟩ : ByteArray)) ++ t321)) else (none)) = some r := H
                       have A41 := Gv.a0 A410
                       clear A410
                       by_cases c42 : (((((((((((((((((((t312 ++ (⟨#[32, 102, 114, 111, 109, 32]⟩ : ByteArray)) ++ t313) ++ (⟨#[32, 116, 111, 32]⟩ : ByteArray)) ++ t314) ++ (⟨#[32, 112, 114, 111, 116, 111, 32]⟩ : ByteArray)) ++ x3_3) ++ (⟨#[32, 115, 112, 111, 114, 116, 32]⟩ : ByteArray)) ++ t315) ++ (⟨#[45]⟩ : ByteArray)) ++ t316) ++ (⟨#[32, 100, 112, 111, 114, 116, 32]⟩ : ByteArray)) ++ t317) ++ (⟨#[45]⟩ : ByteArray)) ++ t318) ++ (⟨#[32, 116, 101, 110, 97, 110, 116, 32]⟩ : ByteArray)) ++ t319) ++ (⟨#[32, 119, 101, 105, 103, 104, 116, 32]⟩ : ByteArray)) ++ t320) ++ (⟨#[32, 99, 104, 97, 105, 110, 32]⟩ : ByteArray)).size + t321.size ≤ 9223372036854775807
                       ·rw [if_pos c42] at H
                        have c42b0 := eq_true c42
                        have c42b1 : decide ((((((((((((((((((((t312 ++ (⟨#[32, 102, 114, 111, 109, 32]⟩ : ByteArray)) ++ t313) ++ (⟨#[32, 116, 111, 32]⟩ : ByteArray)) ++ t314) ++ (⟨#[32, 112, 114, 111, 116, 111, 32]⟩ : ByteArray)) ++ x3_3) ++ (⟨#[32, 115, 112, 111, 114, 116, 32]⟩ : ByteArray)) ++ t315) ++ (⟨#[45]⟩ : ByteArray)) ++ t316) ++ (⟨#[32, 100, 112, 111, 114, 116, 32]⟩ : ByteArray)) ++ t317) ++ (⟨#[45]⟩ : ByteArray)) ++ t318) ++ (⟨#[32, 116, 101, 110, 97, 110, 116, 32]⟩ : ByteArray)) ++ t319) ++ (⟨#[32, 119, 101, 105, 103, 104, 116, 32]⟩ : ByteArray)) ++ t320) ++ (⟨#[32, 99, 104, 97, 105, 110, 32]⟩ : ByteArray)).size + t321.size ≤ 9223372036854775807) = true := decide_eq_true c42
                        have c42s : t312.size + 6 + t313.size + 4 + t314.size + 7 + x3_3.size + 7 + t315.size + 1 + t316.size + 7 + t317.size + 1 + t318.size + 8 + t319.size + 8 + t320.size + 7 + t321.size ≤ 9223372036854775807 := (by have h_ := c42; simp only [ByteArray.size_append] at h_; exact h_)
                        have c42b3 := eq_true c42s
                        have c42b4 : decide (t312.size + 6 + t313.size + 4 + t314.size + 7 + x3_3.size + 7 + t315.size + 1 + t316.size + 7 + t317.size + 1 + t318.size + 8 + t319.size + 8 + t320.size + 7 + t321.size ≤ 9223372036854775807) = true := decide_eq_true c42s
                        have c42b5 : (9223372036854775807 < t312.size + 6 + t313.size + 4 + t314.size + 7 + x3_3.size + 7 + t315.size + 1 + t316.size + 7 + t317.size + 1 + t318.size + 8 + t319.size + 8 + t320.size + 7 + t321.size) = False := eq_false (Nat.not_lt.2 c42s)
                        clear c42s
                        try have c42b2 : (9223372036854775807 < (((((((((((((((((((t312 ++ (⟨#[32, 102, 114, 111, 109, 32]⟩ : ByteArray)) ++ t313) ++ (⟨#[32, 116, 111, 32]⟩ : ByteArray)) ++ t314) ++ (⟨#[32, 112, 114, 111, 116, 111, 32]⟩ : ByteArray)) ++ x3_3) ++ (⟨#[32, 115, 112, 111, 114, 116, 32]⟩ : ByteArray)) ++ t315) ++ (⟨#[45]⟩ : ByteArray)) ++ t316) ++ (⟨#[32, 100, 112, 111, 114, 116, 32]⟩ : ByteArray)) ++ t317) ++ (⟨#[45]⟩ : ByteArray)) ++ t318) ++ (⟨#[32, 116, 101, 110, 97, 110, 116, 32]⟩ : ByteArray)) ++ t319) ++ (⟨#[32, 119, 101, 105, 103, 104, 116, 32]⟩ : ByteArray)) ++ t320) ++ (⟨#[32, 99, 104, 97, 105, 110, 32]⟩ : ByteArray)).size + t321.size) = False := eq_false (Nat.not_lt.2 c42)
                        obtain rfl := Option.some.inj H
                        try go_wp2
                        have n0_ := Gv.a0 (blk_drew BK309.out)
                        have n1_ := Gv.a0 (below_drew1 HB.out)
                        clear BK309
                        clear HB
                        have BK309 := n0_
                        have HB := n1_
                        clear n0_ n1_
                        refine start_ (n := 17) (S := fun w' => w'.cell? ⟨gb309, 0, none⟩ = some (.int .i64 a0_0) ∧ w'.cell? ⟨gb309, 1, none⟩ = some (.int .i64 a0_1) ∧ w'.cell? ⟨gb309, 2, none⟩ = some (.int .i64 a0_2) ∧ w'.cell? ⟨gb309, 3, none⟩ = some (.int .i64 a0_3) ∧ w'.cell? ⟨gb309, 4, none⟩ = some (.int .i64 a0_4) ∧ w'.cell? ⟨gb309, 5, none⟩ = some (.int .i64 a0_5) ∧ w'.cell? ⟨gb309, 6, none⟩ = some (.int .i64 a0_6) ∧ w'.cell? ⟨gb309, 7, none⟩ = some (.int .i64 a0_7) ∧ w'.cell? ⟨gb309, 8, none⟩ = some (.int .i64 a0_8) ∧ w'.cell? ⟨gb309, 9, none⟩ = some (.int .i64 a0_9) ∧ w'.cell? ⟨gb309, 10, none⟩ = some (.int .i64 a0_10) ∧ w'.cell? ⟨gb309, 11, none⟩ = some (.int .i64 a0_11) ∧ w'.cell? ⟨gb309, 12, none⟩ = some (.int .i64 a0_12) ∧ w'.cell? ⟨gb309, 13, none⟩ = some (.int .i64 a0_13) ∧ w'.cell? ⟨gb309, 14, none⟩ = some (.int .i64 a0_14) ∧ w'.cell? ⟨gb309, 15, none⟩ = some (.int .i64 a0_15) ∧ w'.cell? ⟨gb309, 16, none⟩ = some (.int .i64 a0_16) ∧ w'.cell? ⟨gb309, 17, none⟩ = some (.int .i64 a0_17) ∧ w'.cell? ⟨gb309, 18, none⟩ = some (.int .i64 a0_18) ∧ w'.cell? ⟨gb309, 19, none⟩ = some (.int .i64 a0_19) ∧ w'.cell? ⟨gb309, 20, none⟩ = some (.int .i64 a0_20)) (ds := []) #[false, false, false, false, false, false, false, false, false, false, false, false, false, false, false, false, false] (by kernel_rfl) rfl rfl ⟨(blk_cell BK309.out 0).trans rfl, (blk_cell BK309.out 1).trans rfl, (blk_cell BK309.out 2).trans rfl, (blk_cell BK309.out 3).trans rfl, (blk_cell BK309.out 4).trans rfl, (blk_cell BK309.out 5).trans rfl, (blk_cell BK309.out 6).trans rfl, (blk_cell BK309.out 7).trans rfl, (blk_cell BK309.out 8).trans rfl, (blk_cell BK309.out 9).trans rfl, (blk_cell BK309.out 10).trans rfl, (blk_cell BK309.out 11).trans rfl, (blk_cell BK309.out 12).trans rfl, (blk_cell BK309.out 13).trans rfl, (blk_cell BK309.out 14).trans rfl, (blk_cell BK309.out 15).trans rfl, (blk_cell BK309.out 16).trans rfl, (blk_cell BK309.out 17).trans rfl, (blk_cell BK309.out 18).trans rfl, (blk_cell BK309.out 19).trans rfl, (blk_cell BK309.out 20).trans rfl⟩ (fun hHeld => ?_); refine with_tabW spec_RuleText.tab6 spec_RuleText.bits6 (fun HT_ HW_ => ?_)
                        generalize wc.drew = w43 at BK309 HB hHeld ⊢
                        refine Gv.pu 0 (some 14) HT_ ?_
                        refine Gv.pu 4 (some 18) HT_ ?_
                        refine Gv.pu 9 (some 23) HT_ ?_
                        refine Gv.pu 14 (some 28) HT_ ?_
                        refine take_ (i := 1) (N := some 15) (v := ?_) (a' := ?_) #[true, true, false, false, true, false, false, false, false, true, false, false, false, false, true, false, false] rfl rfl (take_ofW HT_.out HW_.out (by kernel_rfl)) (fun _ _ _ h => h) (Or.inl ⟨by rfl, ?_⟩) hHeld ?_ ?_
                        rotate_left
                        ·rintro w' ⟨s0, s1, s2, s3, s4, s5, s6, s7, s8, s9, s10, s11, s12, s13, s14, s15, s16, s17, s18, s19, s20⟩
                         first | ((refine Gv.load_run (t := 27) (A := ⟨gb309, 0, none⟩) (cs := [_, _, _, _, _, _, _, _, _, _, _, _, _, _, _, _, _, _, _, _, _]) (x := ?xx1_) ?ho1_ ?hx1_ ⟨s0, s1, s2, s3, s4, s5, s6, s7, s8, s9, s10, s11, s12, s13, s14, s15, s16, s17, s18, s19, s20, trivial⟩ Try.underlying27 rfl (by kernel_rfl)); (case ho1_ => rfl); (case hx1_ => rfl)) | (go_simp; with_reducible rfl)
                        rotate_left
                        ·simp only [Act.put, List.setIfInBounds_toArray, List.set_cons_zero, List.set_cons_succ, i64_w, i32_w]
                         rfl
                        refine take_ (i := 5) (N := some 19) (v := ?_) (a' := ?_) #[true, true, false, false, true, true, false, false, false, true, false, false, false, false, true, false, false] rfl rfl (take_ofW HT_.out HW_.out (by kernel_rfl)) (fun _ _ _ h => h) (Or.inl ⟨by rfl, ?_⟩) hHeld ?_ ?_
                        rotate_left
                        ·rintro w' ⟨s0, s1, s2, s3, s4, s5, s6, s7, s8, s9, s10, s11, s12, s13, s14, s15, s16, s17, s18, s19, s20⟩
                         first | ((refine Gv.load_run (t := 27) (A := ⟨gb309, 0, none⟩) (cs := [_, _, _, _, _, _, _, _, _, _, _, _, _, _, _, _, _, _, _, _, _]) (x := ?xx3_) ?ho3_ ?hx3_ ⟨s0, s1, s2, s3, s4, s5, s6, s7, s8, s9, s10, s11, s12, s13, s14, s15, s16, s17, s18, s19, s20, trivial⟩ Try.underlying27 rfl (by kernel_rfl)); (case ho3_ => rfl); (case hx3_ => rfl)) | (go_simp; with_reducible rfl)
                        rotate_left
                        ·simp only [Act.put, List.setIfInBounds_toArray, List.set_cons_zero, List.set_cons_succ, i64_w, i32_w]
                         rfl
                        refine take_ (i := 10) (N := some 24) (v := ?_) (a' := ?_) #[true, true, false, false, true, true, false, false, false, true, true, false, false, false, true, false, false] rfl rfl (take_ofW HT_.out HW_.out (by kernel_rfl)) (fun _ _ _ h => h) (Or.inl ⟨by rfl, ?_⟩) hHeld ?_ ?_
                        rotate_left
                        ·rintro w' ⟨s0, s1, s2, s3, s4, s5, s6, s7, s8, s9, s10, s11, s12, s13, s14, s15, s16, s17, s18, s19, s20⟩
                         first | ((refine Gv.load_run (t := 27) (A := ⟨gb309, 0, none⟩) (cs := [_, _, _, _, _, _, _, _, _, _, _, _, _, _, _, _, _, _, _, _, _]) (x := ?xx5_) ?ho5_ ?hx5_ ⟨s0, s1, s2, s3, s4, s5, s6, s7, s8, s9, s10, s11, s12, s13, s14, s15, s16, s17, s18, s19, s20, trivial⟩ Try.underlying27 rfl (by kernel_rfl)); (case ho5_ => rfl); (case hx5_ => rfl)) | (go_simp; with_reducible rfl)
                        rotate_left
                        ·simp only [Act.put, List.setIfInBounds_toArray, List.set_cons_zero, List.set_cons_succ, i64_w, i32_w]
                         rfl
                        refine one_ (i := 2) (N := some 16) #[true, true, true, false, true, true, false, false, false, true, true, false, false, false, true, false, false] rfl rfl (one_of HT_.out (by kernel_rfl)) (by decide) (fun K hK => ?_)
                        refine goes_ Tryz.func22 (by kernel_rfl) rfl #[.int .i64 a0_0] (by rfl) rfl rfl Gv.lm ?_
                        with_reducible refine (spec_NumText.calls kj3 a0_0 t312 _ A13.out).mono ?_
                        rintro e w44 ⟨rfl, hb⟩
                        refine ⟨_, rfl, ?_⟩
                        have n0_ := Gv.a0 (Gv.bb BK309.out hb)
                        have n1_ := Gv.a0 (below_step Gv.bw hb)
                        clear BK309
                        clear HB
                        have BK309 := n0_
                        have HB := n1_
                        clear n0_ n1_
                        (try clear hb)
                        (try clear hb2)
                        (try clear hk)
                        (try clear hi)
                        refine hK.out _ _ ⟨(blk_cell BK309.out 0).trans rfl, (blk_cell BK309.out 1).trans rfl, (blk_cell BK309.out 2).trans rfl, (blk_cell BK309.out 3).trans rfl, (blk_cell BK309.out 4).trans rfl, (blk_cell BK309.out 5).trans rfl, (blk_cell BK309.out 6).trans rfl, (blk_cell BK309.out 7).trans rfl, (blk_cell BK309.out 8).trans rfl, (blk_cell BK309.out 9).trans rfl, (blk_cell BK309.out 10).trans rfl, (blk_cell BK309.out 11).trans rfl, (blk_cell BK309.out 12).trans rfl, (blk_cell BK309.out 13).trans rfl, (blk_cell BK309.out 14).trans rfl, (blk_cell BK309.out 15).trans rfl, (blk_cell BK309.out 16).trans rfl, (blk_cell BK309.out 17).trans rfl, (blk_cell BK309.out 18).trans rfl, (blk_cell BK309.out 19).trans rfl, (blk_cell BK309.out 20).trans rfl⟩ (fun hHeld => ?_)
                        clear hK K
                        refine norm_ (a' := ?_) ?_ ?_
                        rotate_left
                        ·show Act.put _ (some 16) _ = _
                         simp only [Act.put, List.setIfInBounds_toArray, List.set_cons_zero, List.set_cons_succ, i64_w, i32_w]
                         rfl
                        refine Gv.pu 3 (some 17) HT_ ?_
                        refine one_ (i := 6) (N := some 20) #[true, true, true, true, true, true, true, false, false, true, true, false, false, false, true, false, false] rfl rfl (one_of HT_.out (by kernel_rfl)) (by decide) (fun K hK => ?_)
                        refine goes_ Tryz.func26 (by kernel_rfl) rfl #[.agg #[.int .i64 a0_1, .int .i64 a0_2, .int .i64 a0_3, .int .i64 a0_4, .int .i64 a0_5, .int .i64 a0_6]] (by rfl) rfl rfl Gv.lm ?_
                        with_reducible refine (spec_PrefixText.calls kj3 a0_1 a0_2 a0_3 a0_4 a0_5 a0_6 t313 _ A15.out).mono ?_
                        rintro e w45 ⟨rfl, hb⟩
                        refine ⟨_, rfl, ?_⟩
                        have n0_ := Gv.a0 (Gv.bb BK309.out hb)
                        have n1_ := Gv.a0 (below_step Gv.bw hb)
                        clear BK309
                        clear HB
                        have BK309 := n0_
                        have HB := n1_
                        clear n0_ n1_
                        (try clear hb)
                        (try clear hb2)
                        (try clear hk)
                        (try clear hi)
                        refine hK.out _ _ ⟨(blk_cell BK309.out 0).trans rfl, (blk_cell BK309.out 1).trans rfl, (blk_cell BK309.out 2).trans rfl, (blk_cell BK309.out 3).trans rfl, (blk_cell BK309.out 4).trans rfl, (blk_cell BK309.out 5).trans rfl, (blk_cell BK309.out 6).trans rfl, (blk_cell BK309.out 7).trans rfl, (blk_cell BK309.out 8).trans rfl, (blk_cell BK309.out 9).trans rfl, (blk_cell BK309.out 10).trans rfl, (blk_cell BK309.out 11).trans rfl, (blk_cell BK309.out 12).trans rfl, (blk_cell BK309.out 13).trans rfl, (blk_cell BK309.out 14).trans rfl, (blk_cell BK309.out 15).trans rfl, (blk_cell BK309.out 16).trans rfl, (blk_cell BK309.out 17).trans rfl, (blk_cell BK309.out 18).trans rfl, (blk_cell BK309.out 19).trans rfl, (blk_cell BK309.out 20).trans rfl⟩ (fun hHeld => ?_)
                        clear hK K
                        refine norm_ (a' := ?_) ?_ ?_
                        rotate_left
                        ·show Act.put _ (some 20) _ = _
                         simp only [Act.put, List.setIfInBounds_toArray, List.set_cons_zero, List.set_cons_succ, i64_w, i32_w]
                         rfl
                        refine Gv.pu 7 (some 21) HT_ ?_
                        refine Gv.pu 8 (some 22) HT_ ?_
                        refine one_ (i := 11) (N := some 25) #[true, true, true, true, true, true, true, true, true, true, true, true, false, false, true, false, false] rfl rfl (one_of HT_.out (by kernel_rfl)) (by decide) (fun K hK => ?_)
                        refine goes_ Tryz.func26 (by kernel_rfl) rfl #[.agg #[.int .i64 a0_7, .int .i64 a0_8, .int .i64 a0_9, .int .i64 a0_10, .int .i64 a0_11, .int .i64 a0_12]] (by rfl) rfl rfl Gv.lm ?_
                        with_reducible refine (spec_PrefixText.calls kj3 a0_7 a0_8 a0_9 a0_10 a0_11 a0_12 t314 _ A18.out).mono ?_
                        rintro e w46 ⟨rfl, hb⟩
                        refine ⟨_, rfl, ?_⟩
                        have n0_ := Gv.a0 (Gv.bb BK309.out hb)
                        have n1_ := Gv.a0 (below_step Gv.bw hb)
                        clear BK309
                        clear HB
                        have BK309 := n0_
                        have HB := n1_
                        clear n0_ n1_
                        (try clear hb)
                        (try clear hb2)
                        (try clear hk)
                        (try clear hi)
                        refine hK.out _ _ ⟨(blk_cell BK309.out 0).trans rfl, (blk_cell BK309.out 1).trans rfl, (blk_cell BK309.out 2).trans rfl, (blk_cell BK309.out 3).trans rfl, (blk_cell BK309.out 4).trans rfl, (blk_cell BK309.out 5).trans rfl, (blk_cell BK309.out 6).trans rfl, (blk_cell BK309.out 7).trans rfl, (blk_cell BK309.out 8).trans rfl, (blk_cell BK309.out 9).trans rfl, (blk_cell BK309.out 10).trans rfl, (blk_cell BK309.out 11).trans rfl, (blk_cell BK309.out 12).trans rfl, (blk_cell BK309.out 13).trans rfl, (blk_cell BK309.out 14).trans rfl, (blk_cell BK309.out 15).trans rfl, (blk_cell BK309.out 16).trans rfl, (blk_cell BK309.out 17).trans rfl, (blk_cell BK309.out 18).trans rfl, (blk_cell BK309.out 19).trans rfl, (blk_cell BK309.out 20).trans rfl⟩ (fun hHeld => ?_)
                        clear hK K
                        refine norm_ (a' := ?_) ?_ ?_
                        rotate_left
                        ·show Act.put _ (some 25) _ = _
                         simp only [Act.put, List.setIfInBounds_toArray, List.set_cons_zero, List.set_cons_succ, i64_w, i32_w]
                         rfl
                        refine Gv.pu 12 (some 26) HT_ ?_
                        refine Gv.pu 13 (some 27) HT_ ?_
                        refine Gv.pu 15 (some 29) HT_ ?_
                        refine Gv.pu 16 (some 4) HT_ ?_
                        refine done_ (done_of HT_.out (by kernel_rfl)) ?_
                        try go_wp2
                        have n0_ := Gv.a0 (blk_drew BK309.out)
                        have n1_ := Gv.a0 (below_drew1 HB.out)
                        clear BK309
                        clear HB
                        have BK309 := n0_
                        have HB := n1_
                        clear n0_ n1_
                        refine start_ (n := 22) (S := fun w' => w'.cell? ⟨gb309, 0, none⟩ = some (.int .i64 a0_0) ∧ w'.cell? ⟨gb309, 1, none⟩ = some (.int .i64 a0_1) ∧ w'.cell? ⟨gb309, 2, none⟩ = some (.int .i64 a0_2) ∧ w'.cell? ⟨gb309, 3, none⟩ = some (.int .i64 a0_3) ∧ w'.cell? ⟨gb309, 4, none⟩ = some (.int .i64 a0_4) ∧ w'.cell? ⟨gb309, 5, none⟩ = some (.int .i64 a0_5) ∧ w'.cell? ⟨gb309, 6, none⟩ = some (.int .i64 a0_6) ∧ w'.cell? ⟨gb309, 7, none⟩ = some (.int .i64 a0_7) ∧ w'.cell? ⟨gb309, 8, none⟩ = some (.int .i64 a0_8) ∧ w'.cell? ⟨gb309, 9, none⟩ = some (.int .i64 a0_9) ∧ w'.cell? ⟨gb309, 10, none⟩ = some (.int .i64 a0_10) ∧ w'.cell? ⟨gb309, 11, none⟩ = some (.int .i64 a0_11) ∧ w'.cell? ⟨gb309, 12, none⟩ = some (.int .i64 a0_12) ∧ w'.cell? ⟨gb309, 13, none⟩ = some (.int .i64 a0_13) ∧ w'.cell? ⟨gb309, 14, none⟩ = some (.int .i64 a0_14) ∧ w'.cell? ⟨gb309, 15, none⟩ = some (.int .i64 a0_15) ∧ w'.cell? ⟨gb309, 16, none⟩ = some (.int .i64 a0_16) ∧ w'.cell? ⟨gb309, 17, none⟩ = some (.int .i64 a0_17) ∧ w'.cell? ⟨gb309, 18, none⟩ = some (.int .i64 a0_18) ∧ w'.cell? ⟨gb309, 19, none⟩ = some (.int .i64 a0_19) ∧ w'.cell? ⟨gb309, 20, none⟩ = some (.int .i64 a0_20)) (ds := []) #[false, false, false, false, false, false, false, false, false, false, false, false, false, false, false, false, false, false, false, false, false, false] (by kernel_rfl) rfl rfl ⟨(blk_cell BK309.out 0).trans rfl, (blk_cell BK309.out 1).trans rfl, (blk_cell BK309.out 2).trans rfl, (blk_cell BK309.out 3).trans rfl, (blk_cell BK309.out 4).trans rfl, (blk_cell BK309.out 5).trans rfl, (blk_cell BK309.out 6).trans rfl, (blk_cell BK309.out 7).trans rfl, (blk_cell BK309.out 8).trans rfl, (blk_cell BK309.out 9).trans rfl, (blk_cell BK309.out 10).trans rfl, (blk_cell BK309.out 11).trans rfl, (blk_cell BK309.out 12).trans rfl, (blk_cell BK309.out 13).trans rfl, (blk_cell BK309.out 14).trans rfl, (blk_cell BK309.out 15).trans rfl, (blk_cell BK309.out 16).trans rfl, (blk_cell BK309.out 17).trans rfl, (blk_cell BK309.out 18).trans rfl, (blk_cell BK309.out 19).trans rfl, (blk_cell BK309.out 20).trans rfl⟩ (fun hHeld => ?_); refine with_tabW spec_RuleText.tab7 spec_RuleText.bits7 (fun HT_ HW_ => ?_)
                        generalize w46.drew = w47 at BK309 HB hHeld ⊢
                        refine Gv.pu 0 (some 30) HT_ ?_
                        refine Gv.pu 1 (some 31) HT_ ?_
                        refine Gv.pu 2 (some 32) HT_ ?_
                        refine Gv.pu 7 (some 37) HT_ ?_
                        refine Gv.pu 12 (some 42) HT_ ?_
                        refine Gv.pu 17 (some 47) HT_ ?_
                        refine take_ (i := 3) (N := some 33) (v := ?_) (a' := ?_) #[true, true, true, true, false, false, false, true, false, false, false, false, true, false, false, false, false, true, false, false, false, false] rfl rfl (take_ofW HT_.out HW_.out (by kernel_rfl)) (fun _ _ _ h => h) (Or.inl ⟨by rfl, ?_⟩) hHeld ?_ ?_
                        rotate_left
                        ·rintro w' ⟨s0, s1, s2, s3, s4, s5, s6, s7, s8, s9, s10, s11, s12, s13, s14, s15, s16, s17, s18, s19, s20⟩
                         first | ((refine Gv.load_run (t := 27) (A := ⟨gb309, 0, none⟩) (cs := [_, _, _, _, _, _, _, _, _, _, _, _, _, _, _, _, _, _, _, _, _]) (x := ?xx7_) ?ho7_ ?hx7_ ⟨s0, s1, s2, s3, s4, s5, s6, s7, s8, s9, s10, s11, s12, s13, s14, s15, s16, s17, s18, s19, s20, trivial⟩ Try.underlying27 rfl (by kernel_rfl)); (case ho7_ => rfl); (case hx7_ => rfl)) | (go_simp; with_reducible rfl)
                        rotate_left
                        ·simp only [Act.put, List.setIfInBounds_toArray, List.set_cons_zero, List.set_cons_succ, i64_w, i32_w]
                         rfl
                        refine take_ (i := 8) (N := some 38) (v := ?_) (a' := ?_) #[true, true, true, true, false, false, false, true, true, false, false, false, true, false, false, false, false, true, false, false, false, false] rfl rfl (take_ofW HT_.out HW_.out (by kernel_rfl)) (fun _ _ _ h => h) (Or.inl ⟨by rfl, ?_⟩) hHeld ?_ ?_
                        rotate_left
                        ·rintro w' ⟨s0, s1, s2, s3, s4, s5, s6, s7, s8, s9, s10, s11, s12, s13, s14, s15, s16, s17, s18, s19, s20⟩
                         first | ((refine Gv.load_run (t := 27) (A := ⟨gb309, 0, none⟩) (cs := [_, _, _, _, _, _, _, _, _, _, _, _, _, _, _, _, _, _, _, _, _]) (x := ?xx9_) ?ho9_ ?hx9_ ⟨s0, s1, s2, s3, s4, s5, s6, s7, s8, s9, s10, s11, s12, s13, s14, s15, s16, s17, s18, s19, s20, trivial⟩ Try.underlying27 rfl (by kernel_rfl)); (case ho9_ => rfl); (case hx9_ => rfl)) | (go_simp; with_reducible rfl)
                        rotate_left
                        ·simp only [Act.put, List.setIfInBounds_toArray, List.set_cons_zero, List.set_cons_succ, i64_w, i32_w]
                         rfl
                        refine take_ (i := 13) (N := some 43) (v := ?_) (a' := ?_) #[true, true, true, true, false, false, false, true, true, false, false, false, true, true, false, false, false, true, false, false, false, false] rfl rfl (take_ofW HT_.out HW_.out (by kernel_rfl)) (fun _ _ _ h => h) (Or.inl ⟨by rfl, ?_⟩) hHeld ?_ ?_
                        rotate_left
                        ·rintro w' ⟨s0, s1, s2, s3, s4, s5, s6, s7, s8, s9, s10, s11, s12, s13, s14, s15, s16, s17, s18, s19, s20⟩
                         first | ((refine Gv.load_run (t := 27) (A := ⟨gb309, 0, none⟩) (cs := [_, _, _, _, _, _, _, _, _, _, _, _, _, _, _, _, _, _, _, _, _]) (x := ?xx11_) ?ho11_ ?hx11_ ⟨s0, s1, s2, s3, s4, s5, s6, s7, s8, s9, s10, s11, s12, s13, s14, s15, s16, s17, s18, s19, s20, trivial⟩ Try.underlying27 rfl (by kernel_rfl)); (case ho11_ => rfl); (case hx11_ => rfl)) | (go_simp; with_reducible rfl)
                        rotate_left
                        ·simp only [Act.put, List.setIfInBounds_toArray, List.set_cons_zero, List.set_cons_succ, i64_w, i32_w]
                         rfl
                        refine take_ (i := 18) (N := some 48) (v := ?_) (a' := ?_) #[true, true, true, true, false, false, false, true, true, false, false, false, true, true, false, false, false, true, true, false, false, false] rfl rfl (take_ofW HT_.out HW_.out (by kernel_rfl)) (fun _ _ _ h => h) (Or.inl ⟨by rfl, ?_⟩) hHeld ?_ ?_
                        rotate_left
                        ·rintro w' ⟨s0, s1, s2, s3, s4, s5, s6, s7, s8, s9, s10, s11, s12, s13, s14, s15, s16, s17, s18, s19, s20⟩
                         first | ((refine Gv.load_run (t := 27) (A := ⟨gb309, 0, none⟩) (cs := [_, _, _, _, _, _, _, _, _, _, _, _, _, _, _, _, _, _, _, _, _]) (x := ?xx13_) ?ho13_ ?hx13_ ⟨s0, s1, s2, s3, s4, s5, s6, s7, s8, s9, s10, s11, s12, s13, s14, s15, s16, s17, s18, s19, s20, trivial⟩ Try.underlying27 rfl (by kernel_rfl)); (case ho13_ => rfl); (case hx13_ => rfl)) | (go_simp; with_reducible rfl)
                        rotate_left
                        ·simp only [Act.put, List.setIfInBounds_toArray, List.set_cons_zero, List.set_cons_succ, i64_w, i32_w]
                         rfl
                        refine one_ (i := 4) (N := some 34) #[true, true, true, true, true, false, false, true, true, false, false, false, true, true, false, false, false, true, true, false, false, false] rfl rfl (one_of HT_.out (by kernel_rfl)) (by decide) (fun K hK => ?_)
                        refine goes_ Tryz.func22 (by kernel_rfl) rfl #[.int .i64 a0_14] (by rfl) rfl rfl Gv.lm ?_
                        with_reducible refine (spec_NumText.calls kj3 a0_14 t315 _ A23.out).mono ?_
                        rintro e w48 ⟨rfl, hb⟩
                        refine ⟨_, rfl, ?_⟩
                        have n0_ := Gv.a0 (Gv.bb BK309.out hb)
                        have n1_ := Gv.a0 (below_step Gv.bw hb)
                        clear BK309
                        clear HB
                        have BK309 := n0_
                        have HB := n1_
                        clear n0_ n1_
                        (try clear hb)
                        (try clear hb2)
                        (try clear hk)
                        (try clear hi)
                        refine hK.out _ _ ⟨(blk_cell BK309.out 0).trans rfl, (blk_cell BK309.out 1).trans rfl, (blk_cell BK309.out 2).trans rfl, (blk_cell BK309.out 3).trans rfl, (blk_cell BK309.out 4).trans rfl, (blk_cell BK309.out 5).trans rfl, (blk_cell BK309.out 6).trans rfl, (blk_cell BK309.out 7).trans rfl, (blk_cell BK309.out 8).trans rfl, (blk_cell BK309.out 9).trans rfl, (blk_cell BK309.out 10).trans rfl, (blk_cell BK309.out 11).trans rfl, (blk_cell BK309.out 12).trans rfl, (blk_cell BK309.out 13).trans rfl, (blk_cell BK309.out 14).trans rfl, (blk_cell BK309.out 15).trans rfl, (blk_cell BK309.out 16).trans rfl, (blk_cell BK309.out 17).trans rfl, (blk_cell BK309.out 18).trans rfl, (blk_cell BK309.out 19).trans rfl, (blk_cell BK309.out 20).trans rfl⟩ (fun hHeld => ?_)
                        clear hK K
                        refine norm_ (a' := ?_) ?_ ?_
                        rotate_left
                        ·show Act.put _ (some 34) _ = _
                         simp only [Act.put, List.setIfInBounds_toArray, List.set_cons_zero, List.set_cons_succ, i64_w, i32_w]
                         rfl
                        refine Gv.pu 5 (some 35) HT_ ?_
                        refine Gv.pu 6 (some 36) HT_ ?_
                        refine one_ (i := 9) (N := some 39) #[true, true, true, true, true, true, true, true, true, true, false, false, true, true, false, false, false, true, true, false, false, false] rfl rfl (one_of HT_.out (by kernel_rfl)) (by decide) (fun K hK => ?_)
                        refine goes_ Tryz.func22 (by kernel_rfl) rfl #[.int .i64 a0_15] (by rfl) rfl rfl Gv.lm ?_
                        with_reducible refine (spec_NumText.calls kj3 a0_15 t316 _ A26.out).mono ?_
                        rintro e w49 ⟨rfl, hb⟩
                        refine ⟨_, rfl, ?_⟩
                        have n0_ := Gv.a0 (Gv.bb BK309.out hb)
                        have n1_ := Gv.a0 (below_step Gv.bw hb)
                        clear BK309
                        clear HB
                        have BK309 := n0_
                        have HB := n1_
                        clear n0_ n1_
                        (try clear hb)
                        (try clear hb2)
                        (try clear hk)
                        (try clear hi)
                        refine hK.out _ _ ⟨(blk_cell BK309.out 0).trans rfl, (blk_cell BK309.out 1).trans rfl, (blk_cell BK309.out 2).trans rfl, (blk_cell BK309.out 3).trans rfl, (blk_cell BK309.out 4).trans rfl, (blk_cell BK309.out 5).trans rfl, (blk_cell BK309.out 6).trans rfl, (blk_cell BK309.out 7).trans rfl, (blk_cell BK309.out 8).trans rfl, (blk_cell BK309.out 9).trans rfl, (blk_cell BK309.out 10).trans rfl, (blk_cell BK309.out 11).trans rfl, (blk_cell BK309.out 12).trans rfl, (blk_cell BK309.out 13).trans rfl, (blk_cell BK309.out 14).trans rfl, (blk_cell BK309.out 15).trans rfl, (blk_cell BK309.out 16).trans rfl, (blk_cell BK309.out 17).trans rfl, (blk_cell BK309.out 18).trans rfl, (blk_cell BK309.out 19).trans rfl, (blk_cell BK309.out 20).trans rfl⟩ (fun hHeld => ?_)
                        clear hK K
                        refine norm_ (a' := ?_) ?_ ?_
                        rotate_left
                        ·show Act.put _ (some 39) _ = _
                         simp only [Act.put, List.setIfInBounds_toArray, List.set_cons_zero, List.set_cons_succ, i64_w, i32_w]
                         rfl
                        refine Gv.pu 10 (some 40) HT_ ?_
                        refine Gv.pu 11 (some 41) HT_ ?_
                        refine one_ (i := 14) (N := some 44) #[true, true, true, true, true, true, true, true, true, true, true, true, true, true, true, false, false, true, true, false, false, false] rfl rfl (one_of HT_.out (by kernel_rfl)) (by decide) (fun K hK => ?_)
                        refine goes_ Tryz.func22 (by kernel_rfl) rfl #[.int .i64 a0_16] (by rfl) rfl rfl Gv.lm ?_
                        with_reducible refine (spec_NumText.calls kj3 a0_16 t317 _ A29.out).mono ?_
                        rintro e w50 ⟨rfl, hb⟩
                        refine ⟨_, rfl, ?_⟩
                        have n0_ := Gv.a0 (Gv.bb BK309.out hb)
                        have n1_ := Gv.a0 (below_step Gv.bw hb)
                        clear BK309
                        clear HB
                        have BK309 := n0_
                        have HB := n1_
                        clear n0_ n1_
                        (try clear hb)
                        (try clear hb2)
                        (try clear hk)
                        (try clear hi)
                        refine hK.out _ _ ⟨(blk_cell BK309.out 0).trans rfl, (blk_cell BK309.out 1).trans rfl, (blk_cell BK309.out 2).trans rfl, (blk_cell BK309.out 3).trans rfl, (blk_cell BK309.out 4).trans rfl, (blk_cell BK309.out 5).trans rfl, (blk_cell BK309.out 6).trans rfl, (blk_cell BK309.out 7).trans rfl, (blk_cell BK309.out 8).trans rfl, (blk_cell BK309.out 9).trans rfl, (blk_cell BK309.out 10).trans rfl, (blk_cell BK309.out 11).trans rfl, (blk_cell BK309.out 12).trans rfl, (blk_cell BK309.out 13).trans rfl, (blk_cell BK309.out 14).trans rfl, (blk_cell BK309.out 15).trans rfl, (blk_cell BK309.out 16).trans rfl, (blk_cell BK309.out 17).trans rfl, (blk_cell BK309.out 18).trans rfl, (blk_cell BK309.out 19).trans rfl, (blk_cell BK309.out 20).trans rfl⟩ (fun hHeld => ?_)
                        clear hK K
                        refine norm_ (a' := ?_) ?_ ?_
                        rotate_left
                        ·show Act.put _ (some 44) _ = _
                         simp only [Act.put, List.setIfInBounds_toArray, List.set_cons_zero, List.set_cons_succ, i64_w, i32_w]
                         rfl
                        refine Gv.pu 15 (some 45) HT_ ?_
                        refine Gv.pu 16 (some 46) HT_ ?_
                        refine one_ (i := 19) (N := some 49) #[true, true, true, true, true, true, true, true, true, true, true, true, true, true, true, true, true, true, true, true, false, false] rfl rfl (one_of HT_.out (by kernel_rfl)) (by decide) (fun K hK => ?_)
                        refine goes_ Tryz.func22 (by kernel_rfl) rfl #[.int .i64 a0_17] (by rfl) rfl rfl Gv.lm ?_
                        with_reducible refine (spec_NumText.calls kj3 a0_17 t318 _ A32.out).mono ?_
                        rintro e w51 ⟨rfl, hb⟩
                        refine ⟨_, rfl, ?_⟩
                        have n0_ := Gv.a0 (Gv.bb BK309.out hb)
                        have n1_ := Gv.a0 (below_step Gv.bw hb)
                        clear BK309
                        clear HB
                        have BK309 := n0_
                        have HB := n1_
                        clear n0_ n1_
                        (try clear hb)
                        (try clear hb2)
                        (try clear hk)
                        (try clear hi)
                        refine hK.out _ _ ⟨(blk_cell BK309.out 0).trans rfl, (blk_cell BK309.out 1).trans rfl, (blk_cell BK309.out 2).trans rfl, (blk_cell BK309.out 3).trans rfl, (blk_cell BK309.out 4).trans rfl, (blk_cell BK309.out 5).trans rfl, (blk_cell BK309.out 6).trans rfl, (blk_cell BK309.out 7).trans rfl, (blk_cell BK309.out 8).trans rfl, (blk_cell BK309.out 9).trans rfl, (blk_cell BK309.out 10).trans rfl, (blk_cell BK309.out 11).trans rfl, (blk_cell BK309.out 12).trans rfl, (blk_cell BK309.out 13).trans rfl, (blk_cell BK309.out 14).trans rfl, (blk_cell BK309.out 15).trans rfl, (blk_cell BK309.out 16).trans rfl, (blk_cell BK309.out 17).trans rfl, (blk_cell BK309.out 18).trans rfl, (blk_cell BK309.out 19).trans rfl, (blk_cell BK309.out 20).trans rfl⟩ (fun hHeld => ?_)
                        clear hK K
                        refine norm_ (a' := ?_) ?_ ?_
                        rotate_left
                        ·show Act.put _ (some 49) _ = _
                         simp only [Act.put, List.setIfInBounds_toArray, List.set_cons_zero, List.set_cons_succ, i64_w, i32_w]
                         rfl
                        refine Gv.pu 20 (some 50) HT_ ?_
                        refine Gv.pu 21 (some 4) HT_ ?_
                        refine done_ (done_of HT_.out (by kernel_rfl)) ?_
                        try go_wp2
                        have n0_ := Gv.a0 (blk_drew BK309.out)
                        have n1_ := Gv.a0 (below_drew1 HB.out)
                        clear BK309
                        clear HB
                        have BK309 := n0_
                        have HB := n1_
                        clear n0_ n1_
                        refine start_ (n := 17) (S := fun w' => w'.cell? ⟨gb309, 0, none⟩ = some (.int .i64 a0_0) ∧ w'.cell? ⟨gb309, 1, none⟩ = some (.int .i64 a0_1) ∧ w'.cell? ⟨gb309, 2, none⟩ = some (.int .i64 a0_2) ∧ w'.cell? ⟨gb309, 3, none⟩ = some (.int .i64 a0_3) ∧ w'.cell? ⟨gb309, 4, none⟩ = some (.int .i64 a0_4) ∧ w'.cell? ⟨gb309, 5, none⟩ = some (.int .i64 a0_5) ∧ w'.cell? ⟨gb309, 6, none⟩ = some (.int .i64 a0_6) ∧ w'.cell? ⟨gb309, 7, none⟩ = some (.int .i64 a0_7) ∧ w'.cell? ⟨gb309, 8, none⟩ = some (.int .i64 a0_8) ∧ w'.cell? ⟨gb309, 9, none⟩ = some (.int .i64 a0_9) ∧ w'.cell? ⟨gb309, 10, none⟩ = some (.int .i64 a0_10) ∧ w'.cell? ⟨gb309, 11, none⟩ = some (.int .i64 a0_11) ∧ w'.cell? ⟨gb309, 12, none⟩ = some (.int .i64 a0_12) ∧ w'.cell? ⟨gb309, 13, none⟩ = some (.int .i64 a0_13) ∧ w'.cell? ⟨gb309, 14, none⟩ = some (.int .i64 a0_14) ∧ w'.cell? ⟨gb309, 15, none⟩ = some (.int .i64 a0_15) ∧ w'.cell? ⟨gb309, 16, none⟩ = some (.int .i64 a0_16) ∧ w'.cell? ⟨gb309, 17, none⟩ = some (.int .i64 a0_17) ∧ w'.cell? ⟨gb309, 18, none⟩ = some (.int .i64 a0_18) ∧ w'.cell? ⟨gb309, 19, none⟩ = some (.int .i64 a0_19) ∧ w'.cell? ⟨gb309, 20, none⟩ = some (.int .i64 a0_20)) (ds := []) #[false, false, false, false, false, false, false, false, false, false, false, false, false, false, false, false, false] (by kernel_rfl) rfl rfl ⟨(blk_cell BK309.out 0).trans rfl, (blk_cell BK309.out 1).trans rfl, (blk_cell BK309.out 2).trans rfl, (blk_cell BK309.out 3).trans rfl, (blk_cell BK309.out 4).trans rfl, (blk_cell BK309.out 5).trans rfl, (blk_cell BK309.out 6).trans rfl, (blk_cell BK309.out 7).trans rfl, (blk_cell BK309.out 8).trans rfl, (blk_cell BK309.out 9).trans rfl, (blk_cell BK309.out 10).trans rfl, (blk_cell BK309.out 11).trans rfl, (blk_cell BK309.out 12).trans rfl, (blk_cell BK309.out 13).trans rfl, (blk_cell BK309.out 14).trans rfl, (blk_cell BK309.out 15).trans rfl, (blk_cell BK309.out 16).trans rfl, (blk_cell BK309.out 17).trans rfl, (blk_cell BK309.out 18).trans rfl, (blk_cell BK309.out 19).trans rfl, (blk_cell BK309.out 20).trans rfl⟩ (fun hHeld => ?_); refine with_tabW spec_RuleText.tab8 spec_RuleText.bits8 (fun HT_ HW_ => ?_)
                        generalize w51.drew = w52 at BK309 HB hHeld ⊢
                        refine Gv.pu 0 (some 51) HT_ ?_
                        refine Gv.pu 1 (some 52) HT_ ?_
                        refine Gv.pu 2 (some 53) HT_ ?_
                        refine Gv.pu 7 (some 58) HT_ ?_
                        refine Gv.pu 12 (some 63) HT_ ?_
                        refine take_ (i := 3) (N := some 54) (v := ?_) (a' := ?_) #[true, true, true, true, false, false, false, true, false, false, false, false, true, false, false, false, false] rfl rfl (take_ofW HT_.out HW_.out (by kernel_rfl)) (fun _ _ _ h => h) (Or.inl ⟨by rfl, ?_⟩) hHeld ?_ ?_
                        rotate_left
                        ·rintro w' ⟨s0, s1, s2, s3, s4, s5, s6, s7, s8, s9, s10, s11, s12, s13, s14, s15, s16, s17, s18, s19, s20⟩
                         first | ((refine Gv.load_run (t := 27) (A := ⟨gb309, 0, none⟩) (cs := [_, _, _, _, _, _, _, _, _, _, _, _, _, _, _, _, _, _, _, _, _]) (x := ?xx15_) ?ho15_ ?hx15_ ⟨s0, s1, s2, s3, s4, s5, s6, s7, s8, s9, s10, s11, s12, s13, s14, s15, s16, s17, s18, s19, s20, trivial⟩ Try.underlying27 rfl (by kernel_rfl)); (case ho15_ => rfl); (case hx15_ => rfl)) | (go_simp; with_reducible rfl)
                        rotate_left
                        ·simp only [Act.put, List.setIfInBounds_toArray, List.set_cons_zero, List.set_cons_succ, i64_w, i32_w]
                         rfl
                        refine take_ (i := 8) (N := some 59) (v := ?_) (a' := ?_) #[true, true, true, true, false, false, false, true, true, false, false, false, true, false, false, false, false] rfl rfl (take_ofW HT_.out HW_.out (by kernel_rfl)) (fun _ _ _ h => h) (Or.inl ⟨by rfl, ?_⟩) hHeld ?_ ?_
                        rotate_left
                        ·rintro w' ⟨s0, s1, s2, s3, s4, s5, s6, s7, s8, s9, s10, s11, s12, s13, s14, s15, s16, s17, s18, s19, s20⟩
                         first | ((refine Gv.load_run (t := 27) (A := ⟨gb309, 0, none⟩) (cs := [_, _, _, _, _, _, _, _, _, _, _, _, _, _, _, _, _, _, _, _, _]) (x := ?xx17_) ?ho17_ ?hx17_ ⟨s0, s1, s2, s3, s4, s5, s6, s7, s8, s9, s10, s11, s12, s13, s14, s15, s16, s17, s18, s19, s20, trivial⟩ Try.underlying27 rfl (by kernel_rfl)); (case ho17_ => rfl); (case hx17_ => rfl)) | (go_simp; with_reducible rfl)
                        rotate_left
                        ·simp only [Act.put, List.setIfInBounds_toArray, List.set_cons_zero, List.set_cons_succ, i64_w, i32_w]
                         rfl
                        refine take_ (i := 13) (N := some 64) (v := ?_) (a' := ?_) #[true, true, true, true, false, false, false, true, true, false, false, false, true, true, false, false, false] rfl rfl (take_ofW HT_.out HW_.out (by kernel_rfl)) (fun _ _ _ h => h) (Or.inl ⟨by rfl, ?_⟩) hHeld ?_ ?_
                        rotate_left
                        ·rintro w' ⟨s0, s1, s2, s3, s4, s5, s6, s7, s8, s9, s10, s11, s12, s13, s14, s15, s16, s17, s18, s19, s20⟩
                         first | ((refine Gv.load_run (t := 27) (A := ⟨gb309, 0, none⟩) (cs := [_, _, _, _, _, _, _, _, _, _, _, _, _, _, _, _, _, _, _, _, _]) (x := ?xx19_) ?ho19_ ?hx19_ ⟨s0, s1, s2, s3, s4, s5, s6, s7, s8, s9, s10, s11, s12, s13, s14, s15, s16, s17, s18, s19, s20, trivial⟩ Try.underlying27 rfl (by kernel_rfl)); (case ho19_ => rfl); (case hx19_ => rfl)) | (go_simp; with_reducible rfl)
                        rotate_left
                        ·simp only [Act.put, List.setIfInBounds_toArray, List.set_cons_zero, List.set_cons_succ, i64_w, i32_w]
                         rfl
                        refine one_ (i := 4) (N := some 55) #[true, true, true, true, true, false, false, true, true, false, false, false, true, true, false, false, false] rfl rfl (one_of HT_.out (by kernel_rfl)) (by decide) (fun K hK => ?_)
                        refine goes_ Tryz.func22 (by kernel_rfl) rfl #[.int .i64 a0_18] (by rfl) rfl rfl Gv.lm ?_
                        with_reducible refine (spec_NumText.calls kj3 a0_18 t319 _ A35.out).mono ?_
                        rintro e w53 ⟨rfl, hb⟩
                        refine ⟨_, rfl, ?_⟩
                        have n0_ := Gv.a0 (Gv.bb BK309.out hb)
                        have n1_ := Gv.a0 (below_step Gv.bw hb)
                        clear BK309
                        clear HB
                        have BK309 := n0_
                        have HB := n1_
                        clear n0_ n1_
                        (try clear hb)
                        (try clear hb2)
                        (try clear hk)
                        (try clear hi)
                        refine hK.out _ _ ⟨(blk_cell BK309.out 0).trans rfl, (blk_cell BK309.out 1).trans rfl, (blk_cell BK309.out 2).trans rfl, (blk_cell BK309.out 3).trans rfl, (blk_cell BK309.out 4).trans rfl, (blk_cell BK309.out 5).trans rfl, (blk_cell BK309.out 6).trans rfl, (blk_cell BK309.out 7).trans rfl, (blk_cell BK309.out 8).trans rfl, (blk_cell BK309.out 9).trans rfl, (blk_cell BK309.out 10).trans rfl, (blk_cell BK309.out 11).trans rfl, (blk_cell BK309.out 12).trans rfl, (blk_cell BK309.out 13).trans rfl, (blk_cell BK309.out 14).trans rfl, (blk_cell BK309.out 15).trans rfl, (blk_cell BK309.out 16).trans rfl, (blk_cell BK309.out 17).trans rfl, (blk_cell BK309.out 18).trans rfl, (blk_cell BK309.out 19).trans rfl, (blk_cell BK309.out 20).trans rfl⟩ (fun hHeld => ?_)
                        clear hK K
                        refine norm_ (a' := ?_) ?_ ?_
                        rotate_left
                        ·show Act.put _ (some 55) _ = _
                         simp only [Act.put, List.setIfInBounds_toArray, List.set_cons_zero, List.set_cons_succ, i64_w, i32_w]
                         rfl
                        refine Gv.pu 5 (some 56) HT_ ?_
                        refine Gv.pu 6 (some 57) HT_ ?_
                        refine one_ (i := 9) (N := some 60) #[true, true, true, true, true, true, true, true, true, true, false, false, true, true, false, false, false] rfl rfl (one_of HT_.out (by kernel_rfl)) (by decide) (fun K hK => ?_)
                        refine goes_ Tryz.func22 (by kernel_rfl) rfl #[.int .i64 a0_19] (by rfl) rfl rfl Gv.lm ?_
                        with_reducible refine (spec_NumText.calls kj3 a0_19 t320 _ A38.out).mono ?_
                        rintro e w54 ⟨rfl, hb⟩
                        refine ⟨_, rfl, ?_⟩
                        have n0_ := Gv.a0 (Gv.bb BK309.out hb)
                        have n1_ := Gv.a0 (below_step Gv.bw hb)
                        clear BK309
                        clear HB
                        have BK309 := n0_
                        have HB := n1_
                        clear n0_ n1_
                        (try clear hb)
                        (try clear hb2)
                        (try clear hk)
                        (try clear hi)
                        refine hK.out _ _ ⟨(blk_cell BK309.out 0).trans rfl, (blk_cell BK309.out 1).trans rfl, (blk_cell BK309.out 2).trans rfl, (blk_cell BK309.out 3).trans rfl, (blk_cell BK309.out 4).trans rfl, (blk_cell BK309.out 5).trans rfl, (blk_cell BK309.out 6).trans rfl, (blk_cell BK309.out 7).trans rfl, (blk_cell BK309.out 8).trans rfl, (blk_cell BK309.out 9).trans rfl, (blk_cell BK309.out 10).trans rfl, (blk_cell BK309.out 11).trans rfl, (blk_cell BK309.out 12).trans rfl, (blk_cell BK309.out 13).trans rfl, (blk_cell BK309.out 14).trans rfl, (blk_cell BK309.out 15).trans rfl, (blk_cell BK309.out 16).trans rfl, (blk_cell BK309.out 17).trans rfl, (blk_cell BK309.out 18).trans rfl, (blk_cell BK309.out 19).trans rfl, (blk_cell BK309.out 20).trans rfl⟩ (fun hHeld => ?_)
                        clear hK K
                        refine norm_ (a' := ?_) ?_ ?_
                        rotate_left
                        ·show Act.put _ (some 60) _ = _
                         simp only [Act.put, List.setIfInBounds_toArray, List.set_cons_zero, List.set_cons_succ, i64_w, i32_w]
                         rfl
                        refine Gv.pu 10 (some 61) HT_ ?_
                        refine Gv.pu 11 (some 62) HT_ ?_
                        refine one_ (i := 14) (N := some 65) #[true, true, true, true, true, true, true, true, true, true, true, true, true, true, true, false, false] rfl rfl (one_of HT_.out (by kernel_rfl)) (by decide) (fun K hK => ?_)
                        refine goes_ Tryz.func22 (by kernel_rfl) rfl #[.int .i64 a0_20] (by rfl) rfl rfl Gv.lm ?_
                        with_reducible refine (spec_NumText.calls kj3 a0_20 t321 _ A41.out).mono ?_
                        rintro e w55 ⟨rfl, hb⟩
                        refine ⟨_, rfl, ?_⟩
                        have n0_ := Gv.a0 (Gv.bb BK309.out hb)
                        have n1_ := Gv.a0 (below_step Gv.bw hb)
                        clear BK309
                        clear HB
                        have BK309 := n0_
                        have HB := n1_
                        clear n0_ n1_
                        (try clear hb)
                        (try clear hb2)
                        (try clear hk)
                        (try clear hi)
                        refine hK.out _ _ ⟨(blk_cell BK309.out 0).trans rfl, (blk_cell BK309.out 1).trans rfl, (blk_cell BK309.out 2).trans rfl, (blk_cell BK309.out 3).trans rfl, (blk_cell BK309.out 4).trans rfl, (blk_cell BK309.out 5).trans rfl, (blk_cell BK309.out 6).trans rfl, (blk_cell BK309.out 7).trans rfl, (blk_cell BK309.out 8).trans rfl, (blk_cell BK309.out 9).trans rfl, (blk_cell BK309.out 10).trans rfl, (blk_cell BK309.out 11).trans rfl, (blk_cell BK309.out 12).trans rfl, (blk_cell BK309.out 13).trans rfl, (blk_cell BK309.out 14).trans rfl, (blk_cell BK309.out 15).trans rfl, (blk_cell BK309.out 16).trans rfl, (blk_cell BK309.out 17).trans rfl, (blk_cell BK309.out 18).trans rfl, (blk_cell BK309.out 19).trans rfl, (blk_cell BK309.out 20).trans rfl⟩ (fun hHeld => ?_)
                        clear hK K
                        refine norm_ (a' := ?_) ?_ ?_
                        rotate_left
                        ·show Act.put _ (some 65) _ = _
                         simp only [Act.put, List.setIfInBounds_toArray, List.set_cons_zero, List.set_cons_succ, i64_w, i32_w]
                         rfl
                        refine Gv.pu 15 (some 66) HT_ ?_
                        refine Gv.pu 16 (some 2) HT_ ?_
                        refine done_ (done_of HT_.out (by kernel_rfl)) ?_
                        try go_wp2
                        go_ret
                        exact ⟨Gv.rt, Gv.bw⟩
                       ·rw [if_neg c42] at H
                        exact absurd H (by simp)
                      ·rw [if_neg c40] at H
                       exact absurd H (by simp)
                     ·rw [if_neg c39] at H
                      exact absurd H (by simp)
                    ·rw [if_neg c37] at H
                     exact absurd H (by simp)
                   ·rw [if_neg c36] at H
                    exact absurd H (by simp)
                  ·rw [if_neg c34] at H
                   exact absurd H (by simp)
                 ·rw [if_neg c33] at H
                  exact absurd H (by simp)
                ·rw [if_neg c31] at H
                 exact absurd H (by simp)
               ·rw [if_neg c30] at H
                exact absurd H (by simp)
              ·rw [if_neg c28] at H
               exact absurd H (by simp)
             ·rw [if_neg c27] at H
              exact absurd H (by simp)
            ·rw [if_neg c25] at H
             exact absurd H (by simp)
           ·rw [if_neg c24] at H
            exact absurd H (by simp)
          ·rw [if_neg c22] at H
           exact absurd H (by simp)
         ·rw [if_neg c21] at H
          exact absurd H (by simp)
        ·rw [if_neg c20] at H
         exact absurd H (by simp)
       ·rw [if_neg c19] at H
        exact absurd H (by simp)
      ·rw [if_neg c17] at H
       exact absurd H (by simp)
     ·rw [if_neg c16] at H
      exact absurd H (by simp)
    ·rw [if_neg c14] at H
     exact absurd H (by simp)
 ·replace c3 := Bool.eq_false_iff.mpr c3
  subst c3
  have H1 : (some (⟨#[]⟩ : ByteArray)) = some r := by rw [if_neg (show ¬ (false = true) by decide)] at H; exact H
  clear H
  have H := H1
  clear H1
  obtain rfl := Option.some.inj H
  go_enter Tryz.func12, Tryz.ntmps12
  go_wp2_with (first | ((with_reducible refine gate_dst (N := 1) rfl ?_); refine box_event ?hg (N := 1) ?hd (cs := #[.int .i64 a0_0, .int .i64 a0_1, .int .i64 a0_2, .int .i64 a0_3, .int .i64 a0_4, .int .i64 a0_5, .int .i64 a0_6, .int .i64 a0_7, .int .i64 a0_8, .int .i64 a0_9, .int .i64 a0_10, .int .i64 a0_11, .int .i64 a0_12, .int .i64 a0_13, .int .i64 a0_14, .int .i64 a0_15, .int .i64 a0_16, .int .i64 a0_17, .int .i64 a0_18, .int .i64 a0_19, .int .i64 a0_20]) (t := 27) ?hr ?_; (case hd => rfl); (case hg => rfl); (case hr => first | (go_simp; done) | (go_simp; rfl)); intro gb309 hg w56 hbox hb; have n0_ := Gv.a0 (below_step Gv.bw hb); have n1_ := Gv.a0 (hbox); have n2_ := Gv.a0 ((Gv.ble hg Gv.bw : w.heap.size ≤ gb309)); have n3_ := Gv.a0 ((Gv.ble hg Gv.bw : w.heap.size ≤ gb309)); clear HB; have HB := n0_; have BK309 := n1_; have GW309 := n2_; have GE309 := n3_; clear n0_ n1_ n2_ n3_; clear hb hbox hg; obtain ⟨hcz57_0, hcz57_1, hcz57_2, hcz57_3, hcz57_4, hcz57_5, hcz57_6, hcz57_7, hcz57_8, hcz57_9, hcz57_10, hcz57_11, hcz57_12, hcz57_13, hcz57_14, hcz57_15, hcz57_16, hcz57_17, hcz57_18, hcz57_19, hcz57_20⟩ := Gv.c21 BK309.out) | ((with_reducible refine gate_store (t := 27) (p := 1) rfl ?_); refine Gv.store_event rfl rfl rfl rfl rfl (Gv.kb BK309.out) (by kernel_rfl) rfl (by simp; and_intros <;> rfl) ?_; intro w56s hbox hoth hbel; have n0_ := Gv.a0 (hbox); have n1_ := Gv.a0 (hbel w Gv.bw GE309.out); clear BK309 HB; have BK309 := n0_; have HB := n1_; clear n0_ n1_ hbox hoth hbel; (try clear hcz57_0 hcz57_1 hcz57_2 hcz57_3 hcz57_4 hcz57_5 hcz57_6 hcz57_7 hcz57_8 hcz57_9 hcz57_10 hcz57_11 hcz57_12 hcz57_13 hcz57_14 hcz57_15 hcz57_16 hcz57_17 hcz57_18 hcz57_19 hcz57_20); obtain ⟨hcz57_0, hcz57_1, hcz57_2, hcz57_3, hcz57_4, hcz57_5, hcz57_6, hcz57_7, hcz57_8, hcz57_9, hcz57_10, hcz57_11, hcz57_12, hcz57_13, hcz57_14, hcz57_15, hcz57_16, hcz57_17, hcz57_18, hcz57_19, hcz57_20⟩ := Gv.c21 BK309.out) | ((with_reducible refine gate_callee (f := 11) rfl ?_); refine goesL_ (some 6) rfl rfl Tryz.func11 (by kernel_rfl) rfl #[.agg #[.int .i64 a0_0, .int .i64 a0_1, .int .i64 a0_2, .int .i64 a0_3, .int .i64 a0_4, .int .i64 a0_5, .int .i64 a0_6, .int .i64 a0_7, .int .i64 a0_8, .int .i64 a0_9, .int .i64 a0_10, .int .i64 a0_11, .int .i64 a0_12, .int .i64 a0_13, .int .i64 a0_14, .int .i64 a0_15, .int .i64 a0_16, .int .i64 a0_17, .int .i64 a0_18, .int .i64 a0_19, .int .i64 a0_20]] rfl Gv.lm ?_; (with_reducible refine (spec_RuleOk.calls k a0_0 a0_1 a0_2 a0_3 a0_4 a0_5 a0_6 a0_7 a0_8 a0_9 a0_10 a0_11 a0_12 a0_13 a0_14 a0_15 a0_16 a0_17 a0_18 a0_19 a0_20 false _ A2.out).mono ?_); rintro e w58 ⟨rfl, hb⟩; refine ⟨_, rfl, ?_⟩; have n0_ := Gv.a0 (Gv.bb BK309.out hb); have n1_ := Gv.a0 (below_step Gv.bw hb); clear BK309; clear HB; have BK309 := n0_; have HB := n1_; clear n0_ n1_; (try clear hb); (try clear hb2); (try clear hk); (try clear hi)) | ((with_reducible refine Gv.gate_load (t := 27) rfl ?_); (try (refine gate_guard (by rfl) ?_; dsimp only)); refine wpList_load_row rfl 27 _ rfl gb309 rfl 27 _ _ _ (by first | exact Gv.kb0 BK309.out | exact Gv.kb1 (Gv.kb0 BK309.out)) Tryz.underlying27 rfl (by kernel_rfl) ?_))
  go_ret
  exact ⟨Gv.rt, Gv.bw⟩

/-! ### spec_RuleRead: function 4 -/
def spec_RuleRead.f (k : Nat) (a0 : ByteArray) : Option (Int × Int × Int × Int × Int × Int × Int × Int × Int × Int × Int × Int × Int × Int × Int × Int × Int × Int × Int × Int × Int × Bool) := if (a0.size : Int) > 300 then some (0, 0, 0, 0, 0, 0, 0, 0, 0, 0, 0, 0, 0, 0, 0, 0, 0, 0, 0, 0, 0, false) else (spec_l03Group.f k a0 32).bind fun t => if t.length = 17 then (spec_NumRead.f k (rdOf ByteArray.empty t 0)).bind fun p => (spec_PrefixRead.f k (rdOf ByteArray.empty t 2)).bind fun s => (spec_PrefixRead.f k (rdOf ByteArray.empty t 4)).bind fun d => if s.2.2.2.2.2.2 = true then (if d.2.2.2.2.2.2 = true then (if (rdOf ByteArray.empty t 6).toList = ([97, 110, 121] : List UInt8) then some ((-1 : Int), true) else spec_NumRead.f k (rdOf ByteArray.empty t 6)).bind fun pr => (spec_l09Two.f k (rdOf ByteArray.empty t 8)).bind fun S => (spec_l09Two.f k (rdOf ByteArray.empty t 10)).bind fun D => (spec_NumRead.f k (rdOf ByteArray.empty t 12)).bind fun x => (spec_NumRead.f k (rdOf ByteArray.empty t 14)).bind fun y => (spec_NumRead.f k (rdOf ByteArray.empty t 16)).bind fun z => if S.2.2 = true then (if D.2.2 = true then (spec_RuleOk.f k p.1 s.1 s.2.1 s.2.2.1 s.2.2.2.1 s.2.2.2.2.1 s.2.2.2.2.2.1 d.1 d.2.1 d.2.2.1 d.2.2.2.1 d.2.2.2.2.1 d.2.2.2.2.2.1 pr.1 S.1 S.2.1 D.1 D.2.1 x.1 y.1 z.1).bind fun ok => if ok = true then (spec_RuleText.f k p.1 s.1 s.2.1 s.2.2.1 s.2.2.2.1 s.2.2.2.2.1 s.2.2.2.2.2.1 d.1 d.2.1 d.2.2.1 d.2.2.2.1 d.2.2.2.2.1 d.2.2.2.2.2.1 pr.1 S.1 S.2.1 D.1 D.2.1 x.1 y.1 z.1).bind fun tx => if tx.toList = a0.toList then some (p.1, s.1, s.2.1, s.2.2.1, s.2.2.2.1, s.2.2.2.2.1, s.2.2.2.2.2.1, d.1, d.2.1, d.2.2.1, d.2.2.2.1, d.2.2.2.2.1, d.2.2.2.2.2.1, pr.1, S.1, S.2.1, D.1, D.2.1, x.1, y.1, z.1, true) else some (0, 0, 0, 0, 0, 0, 0, 0, 0, 0, 0, 0, 0, 0, 0, 0, 0, 0, 0, 0, 0, false) else some (0, 0, 0, 0, 0, 0, 0, 0, 0, 0, 0, 0, 0, 0, 0, 0, 0, 0, 0, 0, 0, false) else some (0, 0, 0, 0, 0, 0, 0, 0, 0, 0, 0, 0, 0, 0, 0, 0, 0, 0, 0, 0, 0, false)) else some (0, 0, 0, 0, 0, 0, 0, 0, 0, 0, 0, 0, 0, 0, 0, 0, 0, 0, 0, 0, 0, false) else some (0, 0, 0, 0, 0, 0, 0, 0, 0, 0, 0, 0, 0, 0, 0, 0, 0, 0, 0, 0, 0, false)) else some (0, 0, 0, 0, 0, 0, 0, 0, 0, 0, 0, 0, 0, 0, 0, 0, 0, 0, 0, 0, 0, false) else some (0, 0, 0, 0, 0, 0, 0, 0, 0, 0, 0, 0, 0, 0, 0, 0, 0, 0, 0, 0, 0, false)
set_option maxHeartbeats 8000000 in
set_option maxRecDepth 100000 in
theorem spec_RuleRead.calls (k : Nat) (a0 : ByteArray) (r1 : Int) (r2 : Int) (r3 : Int) (r4 : Int) (r5 : Int) (r6 : Int) (r7 : Int) (r8 : Int) (r9 : Int) (r10 : Int) (r11 : Int) (r12 : Int) (r13 : Int) (r14 : Int) (r15 : Int) (r16 : Int) (r17 : Int) (r18 : Int) (r19 : Int) (r20 : Int) (r21 : Int) (r22 : Bool) (w : World) (h : spec_RuleRead.f k a0 = some (r1, r2, r3, r4, r5, r6, r7, r8, r9, r10, r11, r12, r13, r14, r15, r16, r17, r18, r19, r20, r21, r22)) :
  Calls Tryz.prog 4 #[.string a0] w fun e w' => e = .returned (.tuple #[.agg #[.int .i64 r1, .int .i64 r2, .int .i64 r3, .int .i64 r4, .int .i64 r5, .int .i64 r6, .int .i64 r7, .int .i64 r8, .int .i64 r9, .int .i64 r10, .int .i64 r11, .int .i64 r12, .int .i64 r13, .int .i64 r14, .int .i64 r15, .int .i64 r16, .int .i64 r17, .int .i64 r18, .int .i64 r19, .int .i64 r20, .int .i64 r21], .bool r22]) ∧ Below w.heap.size w w' := by
 unfold spec_RuleRead.f at h; have H := h; clear h; have HS := Gv.a0 (St.St.start w)
 by_cases c1 : (a0.size : Int) > 300
 case' pos =>
  rw [if_pos c1] at H; simp only [Option.some.injEq, Prod.mk.injEq] at H; obtain ⟨rfl, rfl, rfl, rfl, rfl, rfl, rfl, rfl, rfl, rfl, rfl, rfl, rfl, rfl, rfl, rfl, rfl, rfl, rfl, rfl, rfl, rfl⟩ := H; have c1b0 : decide (300 < (a0.size : Int)) = true := decide_eq_true c1; have c1b1 : decide (300 < a0.size) = true := decide_eq_true (by omega); clear c1
 case' neg =>
  rw [if_neg c1] at H; have c1b0 : decide (300 < (a0.size : Int)) = false := decide_eq_false c1; have c1b1 : decide (300 < a0.size) = false := decide_eq_false (by omega); clear c1; replace H := Option.bind_eq_some_iff.mp H; obtain ⟨t, hG, H⟩ := H; have AG := Gv.a0 hG; clear hG
  by_cases c2 : t.length = 17
  case' neg =>
   rw [if_neg c2] at H; simp only [Option.some.injEq, Prod.mk.injEq] at H; obtain ⟨rfl, rfl, rfl, rfl, rfl, rfl, rfl, rfl, rfl, rfl, rfl, rfl, rfl, rfl, rfl, rfl, rfl, rfl, rfl, rfl, rfl, rfl⟩ := H; have c2b0 : ((t.length : Int) == 17) = false := beq_eq_false_iff_ne.mpr (by omega); have c2b1 : ((t.length : Int) != 17) = true := bne_iff_ne.mpr (by omega); clear c2
  case' pos =>
   rw [if_pos c2] at H; obtain ⟨s0, s1, s2, s3, s4, s5, s6, s7, s8, s9, s10, s11, s12, s13, s14, s15, s16, rfl⟩ := St.list17 t c2; clear c2; simp only [rdOf, Int.reduceToNat, Int.toNat_zero, List.getD_cons_succ, List.getD_cons_zero] at H; replace H := Option.bind_eq_some_iff.mp H; obtain ⟨⟨p, pb⟩, hp, H⟩ := H; have A0 := Gv.a0 hp; replace H := Option.bind_eq_some_iff.mp H; obtain ⟨⟨e0, e1, e2, e3, e4, e5, eb⟩, he, H⟩ := H; have A2 := Gv.a0 he; replace H := Option.bind_eq_some_iff.mp H; obtain ⟨⟨d0, d1, d2, d3, d4, d5, db⟩, hd, H⟩ := H; have A4 := Gv.a0 hd; clear hp he hd; dsimp only at H; cases eb
   case' false =>
    rw [if_neg (by decide)] at H; simp only [Option.some.injEq, Prod.mk.injEq] at H; obtain ⟨rfl, rfl, rfl, rfl, rfl, rfl, rfl, rfl, rfl, rfl, rfl, rfl, rfl, rfl, rfl, rfl, rfl, rfl, rfl, rfl, rfl, rfl⟩ := H
   case' true =>
    rw [if_pos rfl] at H; cases db
    case' false =>
     rw [if_neg (by decide)] at H; simp only [Option.some.injEq, Prod.mk.injEq] at H; obtain ⟨rfl, rfl, rfl, rfl, rfl, rfl, rfl, rfl, rfl, rfl, rfl, rfl, rfl, rfl, rfl, rfl, rfl, rfl, rfl, rfl, rfl, rfl⟩ := H
    case' true =>
     rw [if_pos rfl] at H; replace H := Option.bind_eq_some_iff.mp H; obtain ⟨⟨pr, prb⟩, hpr, H⟩ := H; replace H := Option.bind_eq_some_iff.mp H; obtain ⟨⟨lo, hi, sb⟩, hs, H⟩ := H; replace H := Option.bind_eq_some_iff.mp H; obtain ⟨⟨lo2, hi2, qb⟩, hq, H⟩ := H; replace H := Option.bind_eq_some_iff.mp H; obtain ⟨⟨x, xb⟩, hx, H⟩ := H; replace H := Option.bind_eq_some_iff.mp H; obtain ⟨⟨y, yb⟩, hy, H⟩ := H; replace H := Option.bind_eq_some_iff.mp H; obtain ⟨⟨z, zb⟩, hz, H⟩ := H; have A8 := Gv.a0 hs; have A10 := Gv.a0 hq; have A12 := Gv.a0 hx; have A14 := Gv.a0 hy; have A16 := Gv.a0 hz; clear hs hq hx hy hz; dsimp only at H
     by_cases c6 : s6.toList = ([97, 110, 121] : List UInt8)
     case' pos =>
      rw [if_pos c6] at hpr; simp only [Option.some.injEq, Prod.mk.injEq] at hpr; obtain ⟨rfl, rfl⟩ := hpr; have c6b0 : (s6.toList == ([97, 110, 121] : List UInt8)) = true := beq_iff_eq.mpr c6; have c6b1 : (s6.toList != ([97, 110, 121] : List UInt8)) = false := bne_eq_false_iff_eq.mpr c6; clear c6
     case' neg =>
      rw [if_neg c6] at hpr; have A6 := Gv.a0 hpr; clear hpr; have c6b0 : (s6.toList == ([97, 110, 121] : List UInt8)) = false := beq_eq_false_iff_ne.mpr c6; have c6b1 : (s6.toList != ([97, 110, 121] : List UInt8)) = true := bne_iff_ne.mpr c6; clear c6
     all_goals cases sb
     all_goals first
     | (case' false =>
       rw [if_neg (by decide)] at H; simp only [Option.some.injEq, Prod.mk.injEq] at H; obtain ⟨rfl, rfl, rfl, rfl, rfl, rfl, rfl, rfl, rfl, rfl, rfl, rfl, rfl, rfl, rfl, rfl, rfl, rfl, rfl, rfl, rfl, rfl⟩ := H)
     | (case' true =>
      rw [if_pos rfl] at H; cases qb
      case' false =>
       rw [if_neg (by decide)] at H; simp only [Option.some.injEq, Prod.mk.injEq] at H; obtain ⟨rfl, rfl, rfl, rfl, rfl, rfl, rfl, rfl, rfl, rfl, rfl, rfl, rfl, rfl, rfl, rfl, rfl, rfl, rfl, rfl, rfl, rfl⟩ := H
      case' true =>
       rw [if_pos rfl] at H; replace H := Option.bind_eq_some_iff.mp H; obtain ⟨ok, hO, H⟩ := H; have AO := Gv.a0 hO; clear hO; cases ok
       case' false =>
        rw [if_neg (by decide)] at H; simp only [Option.some.injEq, Prod.mk.injEq] at H; obtain ⟨rfl, rfl, rfl, rfl, rfl, rfl, rfl, rfl, rfl, rfl, rfl, rfl, rfl, rfl, rfl, rfl, rfl, rfl, rfl, rfl, rfl, rfl⟩ := H
       case' true =>
        rw [if_pos rfl] at H; replace H := Option.bind_eq_some_iff.mp H; obtain ⟨tx, hT, H⟩ := H; have AT := Gv.a0 hT; clear hT
        by_cases c7 : tx.toList = a0.toList
        case' pos =>
         rw [if_pos c7] at H; simp only [Option.some.injEq, Prod.mk.injEq] at H; obtain ⟨rfl, rfl, rfl, rfl, rfl, rfl, rfl, rfl, rfl, rfl, rfl, rfl, rfl, rfl, rfl, rfl, rfl, rfl, rfl, rfl, rfl, rfl⟩ := H; have c7b0 : (tx.toList == a0.toList) = true := beq_iff_eq.mpr c7; have c7b1 : (tx.toList != a0.toList) = false := bne_eq_false_iff_eq.mpr c7; clear c7
        case' neg =>
         rw [if_neg c7] at H; simp only [Option.some.injEq, Prod.mk.injEq] at H; obtain ⟨rfl, rfl, rfl, rfl, rfl, rfl, rfl, rfl, rfl, rfl, rfl, rfl, rfl, rfl, rfl, rfl, rfl, rfl, rfl, rfl, rfl, rfl⟩ := H; have c7b0 : (tx.toList == a0.toList) = false := beq_eq_false_iff_ne.mpr c7; have c7b1 : (tx.toList != a0.toList) = true := bne_iff_ne.mpr c7; clear c7)
 all_goals go_enter Tryz.func4, Tryz.ntmps4
 all_goals go_wp2_with (first | ((with_reducible refine St.gate_alloc (t := 27) rfl ?_); refine St.ev_alloc (cells := #[.int .i64 0, .int .i64 0, .int .i64 0, .int .i64 0, .int .i64 0, .int .i64 0, .int .i64 0, .int .i64 0, .int .i64 0, .int .i64 0, .int .i64 0, .int .i64 0, .int .i64 0, .int .i64 0, .int .i64 0, .int .i64 0, .int .i64 0, .int .i64 0, .int .i64 0, .int .i64 0, .int .i64 0]) HS rfl rfl (by kernel_rfl) ?_; intro g_ w_ HS'; clear HS; have HS := HS'; clear HS') | ((with_reducible refine St.gate_alloc (t := 25) rfl ?_); refine St.ev_alloc (cells := #[.int .i64 0, .int .i64 0, .int .i64 0, .int .i64 0, .int .i64 0, .int .i64 0]) HS rfl rfl (by kernel_rfl) ?_; intro g_ w_ HS'; clear HS; have HS := HS'; clear HS') | ((with_reducible refine gate_store (t := 27) rfl ?_); refine St.ev_store 0 HS rfl rfl rfl rfl rfl rfl (by kernel_rfl) rfl (by simp [Value.oneCell']) ?_; intro w_ HS'; simp only [List.set_cons_zero, List.set_cons_succ, List.setIfInBounds_toArray, List.take_succ_cons, List.take_zero, List.drop_succ_cons, List.drop_zero, List.cons_append, List.nil_append, List.length_cons, List.length_nil, Nat.reduceAdd] at HS'; clear HS; have HS := HS'; clear HS') | ((with_reducible refine gate_store (t := 27) rfl ?_); refine St.ev_store 1 HS rfl rfl rfl rfl rfl rfl (by kernel_rfl) rfl (by simp [Value.oneCell']) ?_; intro w_ HS'; simp only [List.set_cons_zero, List.set_cons_succ, List.setIfInBounds_toArray, List.take_succ_cons, List.take_zero, List.drop_succ_cons, List.drop_zero, List.cons_append, List.nil_append, List.length_cons, List.length_nil, Nat.reduceAdd] at HS'; clear HS; have HS := HS'; clear HS') | ((with_reducible refine gate_store (t := 27) rfl ?_); refine St.ev_store 2 HS rfl rfl rfl rfl rfl rfl (by kernel_rfl) rfl (by simp [Value.oneCell']) ?_; intro w_ HS'; simp only [List.set_cons_zero, List.set_cons_succ, List.setIfInBounds_toArray, List.take_succ_cons, List.take_zero, List.drop_succ_cons, List.drop_zero, List.cons_append, List.nil_append, List.length_cons, List.length_nil, Nat.reduceAdd] at HS'; clear HS; have HS := HS'; clear HS') | ((with_reducible refine gate_store (t := 27) rfl ?_); refine St.ev_store 3 HS rfl rfl rfl rfl rfl rfl (by kernel_rfl) rfl (by simp [Value.oneCell']) ?_; intro w_ HS'; simp only [List.set_cons_zero, List.set_cons_succ, List.setIfInBounds_toArray, List.take_succ_cons, List.take_zero, List.drop_succ_cons, List.drop_zero, List.cons_append, List.nil_append, List.length_cons, List.length_nil, Nat.reduceAdd] at HS'; clear HS; have HS := HS'; clear HS') | ((with_reducible refine gate_store (t := 25) rfl ?_); refine St.ev_store 0 HS rfl rfl rfl rfl rfl rfl (by kernel_rfl) rfl (by simp [Value.oneCell']) ?_; intro w_ HS'; simp only [List.set_cons_zero, List.set_cons_succ, List.setIfInBounds_toArray, List.take_succ_cons, List.take_zero, List.drop_succ_cons, List.drop_zero, List.cons_append, List.nil_append, List.length_cons, List.length_nil, Nat.reduceAdd] at HS'; clear HS; have HS := HS'; clear HS') | ((with_reducible refine gate_store (t := 3) rfl ?_); refine St.ev_put 0 HS rfl rfl rfl rfl rfl rfl (by kernel_rfl) (by simp) ?_; intro w_ HS'; simp only [List.set_cons_zero, List.set_cons_succ, List.setIfInBounds_toArray, List.take_succ_cons, List.take_zero, List.drop_succ_cons, List.drop_zero, List.cons_append, List.nil_append, List.length_cons, List.length_nil, Nat.reduceAdd] at HS'; clear HS; have HS := HS'; clear HS') | ((with_reducible refine gate_store (t := 3) rfl ?_); refine St.ev_put 2 HS rfl rfl rfl rfl rfl rfl (by kernel_rfl) (by simp) ?_; intro w_ HS'; simp only [List.set_cons_zero, List.set_cons_succ, List.setIfInBounds_toArray, List.take_succ_cons, List.take_zero, List.drop_succ_cons, List.drop_zero, List.cons_append, List.nil_append, List.length_cons, List.length_nil, Nat.reduceAdd] at HS'; clear HS; have HS := HS'; clear HS') | ((with_reducible refine gate_store (t := 25) rfl ?_); refine St.ev_mput 2 HS rfl rfl rfl rfl rfl rfl (by kernel_rfl) rfl (by simp) ?_; intro w_ HS'; simp only [List.set_cons_zero, List.set_cons_succ, List.setIfInBounds_toArray, List.take_succ_cons, List.take_zero, List.drop_succ_cons, List.drop_zero, List.cons_append, List.nil_append, List.length_cons, List.length_nil, Nat.reduceAdd] at HS'; clear HS; have HS := HS'; clear HS') | ((with_reducible refine Gv.gate_load (t := 25) rfl ?_); (try (refine gate_guard (by rfl) ?_; dsimp only)); refine St.ev_load 0 HS rfl rfl rfl rfl Tryz.underlying25 rfl (by kernel_rfl) ?_) | ((with_reducible refine Gv.gate_load (t := 25) rfl ?_); (try (refine gate_guard (by rfl) ?_; dsimp only)); refine St.ev_load 1 HS rfl rfl rfl rfl Tryz.underlying25 rfl (by kernel_rfl) ?_) | ((with_reducible refine Gv.gate_load (t := 27) rfl ?_); (try (refine gate_guard (by rfl) ?_; dsimp only)); refine St.ev_load 2 HS rfl rfl rfl rfl Tryz.underlying27 rfl (by kernel_rfl) ?_) | ((with_reducible refine Gv.gate_load (t := 9) rfl ?_); refine St.ev_cell 0 HS rfl rfl rfl rfl Tryz.underlying9 rfl ?_) | ((with_reducible refine Gv.gate_load (t := 9) rfl ?_); refine St.ev_cell 1 HS rfl rfl rfl rfl Tryz.underlying9 rfl ?_) | ((with_reducible refine Gv.gate_load (t := 9) rfl ?_); refine St.ev_cell 2 HS rfl rfl rfl rfl Tryz.underlying9 rfl ?_) | ((with_reducible refine Gv.gate_load (t := 9) rfl ?_); refine St.ev_cell 3 HS rfl rfl rfl rfl Tryz.underlying9 rfl ?_) | ((with_reducible refine Gv.gate_load (t := 9) rfl ?_); refine St.ev_cell 4 HS rfl rfl rfl rfl Tryz.underlying9 rfl ?_) | ((with_reducible refine Gv.gate_load (t := 9) rfl ?_); refine St.ev_cell 5 HS rfl rfl rfl rfl Tryz.underlying9 rfl ?_) | ((with_reducible refine Gv.gate_load (t := 9) rfl ?_); refine St.ev_cell 6 HS rfl rfl rfl rfl Tryz.underlying9 rfl ?_) | ((with_reducible refine Gv.gate_load (t := 9) rfl ?_); refine St.ev_cell 7 HS rfl rfl rfl rfl Tryz.underlying9 rfl ?_) | ((with_reducible refine Gv.gate_load (t := 9) rfl ?_); refine St.ev_cell 8 HS rfl rfl rfl rfl Tryz.underlying9 rfl ?_) | (go_at_call 7; (with_reducible refine (spec_l03Group.calls k a0 32 _ _ AG.out).mono ?_); rintro e w_ ⟨v_, rfl, hR, hb⟩; obtain ⟨g_, c_, rfl, hle_, hw_⟩ := St.words_read hR (by simp); have HS' := Gv.a0 (HS.out.words hb hle_ (cf' := [(⟨g_, 0, none⟩, .string s0), (⟨g_, 2, none⟩, .string s2), (⟨g_, 4, none⟩, .string s4), (⟨g_, 6, none⟩, .string s6), (⟨g_, 8, none⟩, .string s8), (⟨g_, 10, none⟩, .string s10), (⟨g_, 12, none⟩, .string s12), (⟨g_, 14, none⟩, .string s14), (⟨g_, 16, none⟩, .string s16)]) (by intro q hq; simp only [List.mem_cons, List.not_mem_nil, or_false] at hq; rcases hq with rfl | rfl | rfl | rfl | rfl | rfl | rfl | rfl | rfl <;> exact ⟨rfl, hw_ _ _ rfl⟩)); clear hb hR hle_ hw_; clear HS; have HS := HS'; clear HS') | (go_at_call 7; (with_reducible refine (spec_l03Group.calls k a0 32 _ _ AG.out).mono ?_); rintro e w_ ⟨v_, rfl, hR, hb⟩; obtain ⟨A_, c_, rfl⟩ := Kd.R_slice hR; clear hR; have HS' := Gv.a0 (HS.out.step hb); clear hb; clear HS; have HS := HS'; clear HS') | (go_at_call 8; (with_reducible refine (spec_NumRead.calls k s0 _ _ _ A0.out).mono ?_); rintro e w_ ⟨rfl, hb⟩; have HS' := Gv.a0 (HS.out.step hb); clear hb; clear HS; have HS := HS'; clear HS') | (go_at_call 8; (with_reducible refine (spec_NumRead.calls k s6 _ _ _ A6.out).mono ?_); rintro e w_ ⟨rfl, hb⟩; have HS' := Gv.a0 (HS.out.step hb); clear hb; clear HS; have HS := HS'; clear HS') | (go_at_call 8; (with_reducible refine (spec_NumRead.calls k s12 _ _ _ A12.out).mono ?_); rintro e w_ ⟨rfl, hb⟩; have HS' := Gv.a0 (HS.out.step hb); clear hb; clear HS; have HS := HS'; clear HS') | (go_at_call 8; (with_reducible refine (spec_NumRead.calls k s14 _ _ _ A14.out).mono ?_); rintro e w_ ⟨rfl, hb⟩; have HS' := Gv.a0 (HS.out.step hb); clear hb; clear HS; have HS := HS'; clear HS') | (go_at_call 8; (with_reducible refine (spec_NumRead.calls k s16 _ _ _ A16.out).mono ?_); rintro e w_ ⟨rfl, hb⟩; have HS' := Gv.a0 (HS.out.step hb); clear hb; clear HS; have HS := HS'; clear HS') | (go_at_call 9; (with_reducible refine (spec_PrefixRead.calls k s2 _ _ _ _ _ _ _ _ A2.out).mono ?_); rintro e w_ ⟨rfl, hb⟩; have HS' := Gv.a0 (HS.out.step hb); clear hb; clear HS; have HS := HS'; clear HS') | (go_at_call 9; (with_reducible refine (spec_PrefixRead.calls k s4 _ _ _ _ _ _ _ _ A4.out).mono ?_); rintro e w_ ⟨rfl, hb⟩; have HS' := Gv.a0 (HS.out.step hb); clear hb; clear HS; have HS := HS'; clear HS') | (go_at_call 10; (with_reducible refine (spec_l09Two.calls k s8 _ _ _ _ A8.out).mono ?_); rintro e w_ ⟨rfl, hb⟩; have HS' := Gv.a0 (HS.out.step hb); clear hb; clear HS; have HS := HS'; clear HS') | (go_at_call 10; (with_reducible refine (spec_l09Two.calls k s10 _ _ _ _ A10.out).mono ?_); rintro e w_ ⟨rfl, hb⟩; have HS' := Gv.a0 (HS.out.step hb); clear hb; clear HS; have HS := HS'; clear HS') | (go_at_call 11; (with_reducible refine (spec_RuleOk.calls k _ _ _ _ _ _ _ _ _ _ _ _ _ _ _ _ _ _ _ _ _ _ _ AO.out).mono ?_); rintro e w_ ⟨rfl, hb⟩; have HS' := Gv.a0 (HS.out.step hb); clear hb; clear HS; have HS := HS'; clear HS') | (go_at_call 12; (with_reducible refine (spec_RuleText.calls k _ _ _ _ _ _ _ _ _ _ _ _ _ _ _ _ _ _ _ _ _ _ _ AT.out).mono ?_); rintro e w_ ⟨rfl, hb⟩; have HS' := Gv.a0 (HS.out.step hb); clear hb; clear HS; have HS := HS'; clear HS'))
 all_goals first | (refine bodyPost_ret (results_ct rfl _ _ _ 27 _ (0, 0) _ rfl (HS.out.get (i := 3) rfl) Tryz.underlying27 rfl (by kernel_rfl)) rfl ?_; exact ⟨rfl, HS.out.below⟩) | (refine bodyPost_ret (results_ct rfl _ _ _ 27 _ (0, 0) _ rfl (HS.out.get (i := 0) rfl) Tryz.underlying27 rfl (by kernel_rfl)) rfl ?_; exact ⟨rfl, HS.out.below⟩)

/-! ### strings_Split: function 13 -/
def strings_Split.f (a0 : ByteArray) (a1 : ByteArray) : Option (List ByteArray) := if a0.size ≤ 1048576 ∧ 1 ≤ a1.size then some (Lib.splitB a1 0 (Lib.countB a0 a1) a0) else none
set_option maxHeartbeats 8000000 in
set_option maxRecDepth 100000 in
theorem strings_Split.calls (a0 : ByteArray) (a1 : ByteArray) (r : List ByteArray) (w : World) (hE : La.Env w) (h : strings_Split.f a0 a1 = some r) :
  Calls Tryz.prog 13 #[.string a0, .string a1] w fun e w' => ∃ v0_ : Value, e = .returned (v0_) ∧ Kd.R Kd.string 9 w' w.heap.size (fun _ => True) v0_ r ∧ Below w.heap.size w w' := by
 exact La.split_calls a0 a1 r w hE h

/-! ### impl_NumRead: function 15 -/
def impl_NumRead.f (a0 : ByteArray) : Option (Int × Bool) := if a0.size ≤ 1048576 then some (La.numRead a0) else none
set_option maxHeartbeats 8000000 in
set_option maxRecDepth 100000 in
theorem impl_NumRead.calls (a0 : ByteArray) (r1 : Int) (r2 : Bool) (w : World) (hE : La.Env w) (h : impl_NumRead.f a0 = some (r1, r2)) :
  Calls Tryz.prog 15 #[.string a0] w fun e w' => e = .returned (.tuple #[.int .i64 r1, .bool r2]) ∧ Below w.heap.size w w' := by
 unfold impl_NumRead.f at h
 by_cases hs : a0.size ≤ 1048576
 ·rw [if_pos hs] at h; exact La.numRead_calls a0 r1 r2 w hE hs (Option.some.inj h)
 ·rw [if_neg hs] at h; cases h

/-! ### strings_Cut: function 17 -/
def strings_Cut.f (a0 : ByteArray) (a1 : ByteArray) : Option (ByteArray × ByteArray × Bool) := if a0.size ≤ 1048576 then some ((⟨(Lib.cut a0.data.toList a1.data.toList).1.toArray⟩ : ByteArray), (⟨(Lib.cut a0.data.toList a1.data.toList).2.1.toArray⟩ : ByteArray), (Lib.cut a0.data.toList a1.data.toList).2.2) else none
set_option maxHeartbeats 8000000 in
set_option maxRecDepth 100000 in
theorem strings_Cut.calls (a0 : ByteArray) (a1 : ByteArray) (r1 : ByteArray) (r2 : ByteArray) (r3 : Bool) (w : World) (hE : La.Env w) (h : strings_Cut.f a0 a1 = some (r1, r2, r3)) :
  Calls Tryz.prog 17 #[.string a0, .string a1] w fun e w' => e = .returned (.tuple #[.string r1, .string r2, .bool r3]) ∧ Below w.heap.size w w' := by
 exact La.cut_calls a0 a1 r1 r2 r3 w hE h

/-! ### strconv_ParseUint: function 82 -/
def strconv_ParseUint.f (a0 : ByteArray) (a1 : Int) (a2 : Int) : Option (Int × Bool) := if a0.size ≤ 1048576 ∧ (a1 = 16 ∨ a1 = 10) ∧ a2 = 32 then some (((La.puV a1 a0 : Nat) : Int), true) else none
set_option maxHeartbeats 8000000 in
set_option maxRecDepth 100000 in
theorem strconv_ParseUint.calls (a0 : ByteArray) (a1 : Int) (a2 : Int) (r1 : Int) (r2 : Bool) (w : World) (hE : La.Env w) (h : strconv_ParseUint.f a0 a1 a2 = some (r1, r2)) :
  Calls Tryz.prog 82 #[.string a0, .int .i64 a1, .int .i64 a2] w fun e w' => ∃ ev_, e = .returned (.tuple #[.int .u64 r1, ev_]) ∧ Below w.heap.size w w' := by
 unfold strconv_ParseUint.f at h
 by_cases hs : a0.size ≤ 1048576 ∧ (a1 = 16 ∨ a1 = 10) ∧ a2 = 32
 ·rw [if_pos hs] at h; simp only [Option.some.injEq, Prod.mk.injEq] at h; obtain ⟨rfl, rfl⟩ := h; obtain ⟨h1, h2, rfl⟩ := hs; exact La.pu_calls a1 h2 a0 h1 w hE
 ·rw [if_neg hs] at h; cases h

/-! ### impl_put: function 83 -/
def impl_put.l0 : Nat → Int → Int → List Int → Int → Int → Option (List Int)
 | 0, _, _, _, _, _ => none
 | k + 1, x0, x1, x5, x10, x11 => if x11 < x10 then (if 0 ≤ (wrap64 (8 * (wrap64 ((wrap64 (x1 - 1)) - x11)))) then (if 0 ≤ x11 then (if x11 < (x5.length : Int) then (impl_put.l0 k x0 x1 (x5.set (x11 : Int).toNat ((shr .i64 x0 (wrap64 (8 * (wrap64 ((wrap64 (x1 - 1)) - x11))))) % 256)) x10 (wrap64 (x11 + 1))) else (none)) else (none)) else (none)) else (some x5)
def impl_put.f (k : Nat) (a0 : Int) (a1 : Int) : Option (List Int) := if 0 ≤ a1 then (if (a1 : Int).toNat ≤ 281474976710656 then ((some (List.replicate (a1 : Int).toNat 0 : List Int)).bind fun y329 => (impl_put.l0 k a0 a1 y329 (y329.length : Int) 0)) else (none)) else (none)
set_option maxHeartbeats 8000000 in
set_option maxRecDepth 100000 in
theorem impl_put.calls (k : Nat) (a0 : Int) (a1 : Int) (r : List Int) (w : World) (h : impl_put.f k a0 a1 = some r) :
  Calls Tryz.prog 83 #[.int .i64 a0, .int .i64 a1] w fun e w' => ∃ v0_ : Value, e = .returned (v0_) ∧ Kd.R (Kd.int .u8) 5 w' w.heap.size (fun _ => True) v0_ r ∧ Below w.heap.size w w' := by
 have HB := Gv.a0 (Below.refl w.heap.size w); unfold impl_put.f at h; have H := h; clear h
 by_cases c3 : 0 ≤ a1
 rotate_left
 ·rw [if_neg c3] at H; cases H

 rw [if_pos c3] at H; have c3b0 := eq_true c3; have c3b1 := decide_eq_true c3; clear c3
 by_cases c4 : (a1 : Int).toNat ≤ 281474976710656
 rotate_left
 ·rw [if_neg c4] at H; cases H
 rw [if_pos c4] at H; have c4b0 := eq_true c4; have c4b1 := decide_eq_true c4; clear c4; obtain ⟨y0, hy0⟩ : ∃ y_ : List Int, y_ = (List.replicate (a1 : Int).toNat 0) := ⟨_, rfl⟩
 replace H : (impl_put.l0 k a0 a1 y0 (y0.length : Int) 0) = some r := by first | (rw [hy0]; with_reducible exact H) | (have H2_ := (Option.bind_some _ _).symm.trans H; rw [hy0]; with_reducible exact H2_) | (have H2_ := (Option.bind_some _ _).symm.trans H; with_reducible exact H2_) | with_reducible exact H | (rw [hy0]; exact H) | exact H
 have Ny0 := Gv.a0 hy0; clear hy0; have H' := Gv.a0 H; clear H
 go_enter Tryz.func83, Tryz.ntmps83
 go_wp2_with (first | ((with_reducible refine gate_dst (N := 8) rfl ?_); refine Kd.R_make (Kd.int .u8) _ 5 rfl (N := 8) rfl 62 _ _ rfl a1 rfl rfl Tryz.underlying62 (.int .u8 0) 1 info5 rfl (by decide) (by omega) 0 (ok := fun _ => True) (okp := fun _ => True) rfl (fun _ hk => hk) trivial (Gv.od) (Nat.le_trans (Nat.mul_le_mul_right _ (Gv.od : a1.toNat ≤ 281474976710656)) (by omega)) (Below.refl _ _) (Nat.le_refl _) ?_; intro v3 w5 ho6 hb hg_ hnew_; clear hg_ hnew_; (first | rw [← Ny0.out] at ho6 | (simp only [Int.reduceToNat] at ho6; rw [← Ny0.out] at ho6)); have HO2 := Gv.a0 (Kd.R_lower ho6 (below_size Gv.bw)); replace HB := Gv.hb hb; clear hb ho6; obtain ⟨Ao7, co7, eo7⟩ := Kd.R_slice HO2.out; subst eo7))
 go_loopg [11] k (fun kq v11 w' => ∃ (x5_1 : List Int) (x11_1 : Int), v11 = .int .i64 x11_1 ∧ Aside0 (impl_put.l0 kq a0 a1 x5_1 (y0.length : Int) x11_1 = some r) ∧ Aside0 (kq ≤ k) ∧ Aside0 (Kd.R (Kd.int .u8) 5 w' w.heap.size (fun _ => True) (.slice Ao7 y0.length co7) x5_1) ∧ Aside0 (Below w.heap.size w w'))
 case atStart => exact ⟨(y0), (0), Gv.rq, H', ⟨Nat.le_refl _⟩, ⟨Gv.kr HO2.out⟩, ⟨Gv.bw⟩⟩
 case round =>
  clear H'
  try clear p2
  try clear c3
  try clear c3b0
  try clear c3b1
  try clear c4
  try clear c4b0
  try clear c4b1
  obtain ⟨x5_1, x11_1, rfl, HA, HK1, HO_5, HB⟩ := hrel; have hl5_1 := (Kd.R_reads' HO_5.out).1; rw [hl5_1] at HO_5
  (try simp only [hl5_1]); cases gk with
  | zero => exact absurd HA.out (by simp [impl_put.l0])
  | succ k1 =>
   have H := HA.out; clear HA; simp only [impl_put.l0] at H
   by_cases c8 : x11_1 < (y0.length : Int)
   rotate_left
   ·rw [if_neg c8] at H; have c8b0 := decide_eq_false c8
    (try (have c8b9 := c8b0; rw [hl5_1] at c8b9))
    (try (have c8b8 := c8b0; rw [← hl5_1] at c8b8)); clear c8; obtain rfl := Option.some.inj H
    go_wp2
    go_ret
    exact ⟨_, Gv.rt, Gv.kr HO_5.out, Gv.bw⟩
   rw [if_pos c8] at H; have c8b0 := decide_eq_true c8
   (try (have c8b9 := c8b0; rw [hl5_1] at c8b9))
   (try (have c8b8 := c8b0; rw [← hl5_1] at c8b8)); clear c8; obtain ⟨ji9, hji9⟩ : ∃ j_ : Int, (wrap64 (8 * (wrap64 ((wrap64 (a1 - 1)) - x11_1)))) = j_ := ⟨_, rfl⟩
   replace H : (if 0 ≤ (ji9) then (if 0 ≤ x11_1 then (if x11_1 < (x5_1.length : Int) then (impl_put.l0 k1 a0 a1 (x5_1.set (x11_1 : Int).toNat ((shr .i64 a0 (ji9)) % 256)) (y0.length : Int) (wrap64 (x11_1 + 1))) else (none)) else (none)) else (none)) = some r := by first | (rw [hji9] at H; exact H) | (simp only [hji9] at H ⊢; exact H)
   have hji9w : (IntKind.i64.wrap (8 * (wrap64 ((wrap64 (a1 - 1)) - x11_1)))) = ji9 := (i64_w _).trans hji9
   by_cases c10 : 0 ≤ (ji9)
   rotate_left
   ·rw [if_neg c10] at H; cases H
   rw [if_pos c10] at H; have c10b0 := eq_true c10; have c10b1 := decide_eq_true c10; clear c10; obtain ⟨ji11, hji11⟩ : ∃ j_ : Int, (shr .i64 a0 (ji9)) = j_ := ⟨_, rfl⟩
   replace H : (if 0 ≤ x11_1 then (if x11_1 < (x5_1.length : Int) then (impl_put.l0 k1 a0 a1 (x5_1.set (x11_1 : Int).toNat ((ji11) % 256)) (y0.length : Int) (wrap64 (x11_1 + 1))) else (none)) else (none)) = some r := by first | (rw [hji11] at H; exact H) | (simp only [hji11] at H ⊢; exact H)
   have hji11_ : (a0 / 2 ^ min (ji9).toNat 64) = ji11 := hji11; have hji11z : (ji9) ≤ 64 → (a0 / 2 ^ (ji9).toNat) = ji11 := shr_small hji11
   by_cases c12 : 0 ≤ x11_1
   rotate_left
   ·rw [if_neg c12] at H; cases H
   rw [if_pos c12] at H; have c12b0 := decide_eq_true c12; clear c12
   by_cases c13 : x11_1 < (x5_1.length : Int)
   rotate_left
   ·rw [if_neg c13] at H; cases H
   rw [if_pos c13] at H; have c13b0 := decide_eq_true c13; clear c13; obtain ⟨y1, hy1⟩ : ∃ y_ : List Int, y_ = (x5_1.set (x11_1 : Int).toNat ((ji11) % 256)) := ⟨_, rfl⟩
   replace H : (impl_put.l0 k1 a0 a1 y1 (y0.length : Int) (wrap64 (x11_1 + 1))) = some r := by first | (rw [hy1]; with_reducible exact H) | (have H2_ := (Option.bind_some _ _).symm.trans H; rw [hy1]; with_reducible exact H2_) | (have H2_ := (Option.bind_some _ _).symm.trans H; with_reducible exact H2_) | with_reducible exact H | (rw [hy1]; exact H) | exact H
   have Ny1 := Gv.a0 hy1; clear hy1; have H' := Gv.a0 H; clear H; have p14 : 0 ≤ (x11_1 : Int) := Gv.od; have q14 : (x11_1 : Int) < ((x5_1.length : Int) : Int) := Gv.od; obtain ⟨go14, co14, eo14, gb14, gl14, cl14, HG14⟩ := Kd.R_form HO_5.out (by omega)
   (first | cases eo14 | (injection eo14 with ea_ en_ ec_; (first | subst ea_ | (injection ea_ with ea_; subst ea_)); subst ec_; clear en_)); have GB14 := Gv.a0 gb14; have GG14 := Gv.a0 HG14; clear gb14 gl14 HG14; obtain ⟨u14_0, n14_0⟩ := Kd.R_celln 0 HO_5.out (x11_1 : Int) p14 q14; replace p14 := eq_true p14; replace q14 := eq_true q14; have HP15 := Kd.R_putg HO_5.out (x11_1 : Int) ((ji11) % 256)
   go_wp2_with (first | ((with_reducible refine gate_store (t := 5) (p := 24) rfl ?_); refine store_event (t := 5) (p := 24) (v := ?vo_w16) (w1 := (wr.setCell ⟨go14, (x11_1 : Int).toNat, none⟩ (.int .u8 ((ji11) % 256)))) ?hg ?ho ?hn ?hr ?_; (case ho => rfl); (case hg => rfl); (case hn => rfl); (case hr => first | (go_simp; done) | (go_simp; rfl)); intro w16 hw; have hg : wr.grownBy w16 (some go14) := (by rw [hw]; exact HP15.2); have hp_ : Kd.R (Kd.int .u8) 5 w16 w.heap.size (fun _ => True) (.slice (some ⟨go14, 0, none⟩) x5_1.length co7) y1 := (by rw [hw, Ny1.out]; exact HP15.1); clear HP15; replace HO_5 := Gv.a0 (hp_); replace HB := Gv.a0 ((by rw [hw]; exact below_set (HB.out) GB14.out : Below w.heap.size w w16)); clear hg hw hp_))
   (try simp only [← hl5_1])
   go_roundg k1
   case measure => have := HK1.out; omega
   case rel => exact ⟨(y1), (wrap64 (x11_1 + 1)), Gv.rq, H', ⟨by have := HK1.out; omega⟩, ⟨by (try simp only [hl5_1]); (with_reducible repeat (first | apply Kd.R_alloc | apply Kd.R_drewN | apply Kd.R_drew)); exact HO_5.out⟩, ⟨Gv.bw⟩⟩
/-! ### impl_bytesRead: function 52 -/
def impl_bytesRead.l0 : Nat → Int → Int → List Int → List ByteArray → Int → Int → Option (List Int)
 | 0, _, _, _, _, _, _ => none
 | k + 1, x1, x2, x7, x13, x14, x15 => if x15 < x14 then (if 0 ≤ x15 then (if x15 < (x13.length : Int) then ((strconv_ParseUint.f (rdOf ByteArray.empty x13 x15) x1 32).bind fun bt337 => ((impl_put.f k (wrap64 (bt337.1)) x2).bind fun t339 => (if x7.length + t339.length < 140737488355328 then (impl_bytesRead.l0 k x1 x2 (x7 ++ t339) x13 x14 (wrap64 (x15 + 1))) else (none)))) else (none)) else (none)) else (some x7)
def impl_bytesRead.f (k : Nat) (l0 : List ByteArray) (a1 : Int) (a2 : Int) : Option (List Int) := impl_bytesRead.l0 k a1 a2 (([] : List Int)) l0 (l0.length : Int) 0
set_option maxHeartbeats 8000000 in
set_option maxRecDepth 100000 in
theorem impl_bytesRead.calls (k : Nat) (A0 : Option Addr) (c0 : Nat) (l0 : List ByteArray) (a1 : Int) (a2 : Int) (r : List Int) (w : World) (hE : La.Env w) (hr0 : Kd.C Kd.string w A0 l0.length l0) (hc0 : l0.length ≤ c0) (h : impl_bytesRead.f k l0 a1 a2 = some r) :
  Calls Tryz.prog 52 #[.slice A0 l0.length c0, .int .i64 a1, .int .i64 a2] w fun e w' => ∃ v0_ : Value, e = .returned (v0_) ∧ Kd.R (Kd.int .u8) 5 w' w.heap.size (fun _ => True) v0_ r ∧ Below w.heap.size w w' := by
 have HR0 := Gv.a0 hr0; have HC0 := Gv.a0 hc0; clear hr0 hc0; replace hE := Aside0.mk hE; have HB := Gv.a0 (Below.refl w.heap.size w); unfold impl_bytesRead.f at h; have H := h; clear h; obtain ⟨y1, hy1⟩ : ∃ y_ : List Int, y_ = (([] : List Int)) := ⟨_, rfl⟩
 replace H : (impl_bytesRead.l0 k a1 a2 y1 l0 (l0.length : Int) 0) = some r := by first | (rw [hy1]; with_reducible exact H) | (have H2_ := (Option.bind_some _ _).symm.trans H; rw [hy1]; with_reducible exact H2_) | (have H2_ := (Option.bind_some _ _).symm.trans H; with_reducible exact H2_) | with_reducible exact H | (rw [hy1]; exact H) | exact H
 have Ny1 := Gv.a0 hy1; clear hy1; have H' := Gv.a0 H; clear H
 go_enter Tryz.func52, Tryz.ntmps52
 go_wp2_with (first | ((with_reducible refine gate_dst (N := 12) rfl ?_); refine Kd.R_lit (Kd.int .u8) _ 5 ?hg (N := 12) ?hd (xs := ([] : List Int)) (inner := []) (ok := fun _ => True) (okp := fun _ => True) ?hr ?hp (fun _ hk => hk) trivial (Below.refl _ _) (Nat.le_refl _) (by simp) ?_; (case hd => rfl); (case hg => rfl); (case hr => first | (go_simp; done) | (go_simp; rfl)); (case hp => exact (Reps.none _ _)); intro v10 w4 ho5 hb hg_ hnew_; clear hg_ hnew_; (first | rw [← Ny1.out] at ho5 | (simp only [Int.reduceToNat] at ho5; rw [← Ny1.out] at ho5)); have HO7 := Gv.a0 (Kd.R_lower ho5 (below_size Gv.bw)); replace HB := Gv.hb hb; clear hb ho5))
 go_loopg [7, 15] k (fun kq v7 v15 w' => ∃ (x7_1 : List Int) (x15_1 : Int), v15 = .int .i64 x15_1 ∧ Aside0 (impl_bytesRead.l0 kq a1 a2 x7_1 l0 (l0.length : Int) x15_1 = some r) ∧ Aside0 (kq ≤ k) ∧ Aside0 (Kd.R (Kd.int .u8) 5 w' w.heap.size (fun _ => True) v7 x7_1) ∧ Aside0 (Below w.heap.size w w'))
 case atStart => exact ⟨(y1), (0), Gv.rq, H', ⟨Nat.le_refl _⟩, ⟨Gv.kr HO7.out⟩, ⟨Gv.bw⟩⟩
 case round =>
  clear H'
  try clear p2
  try clear c5
  obtain ⟨x7_1, x15_1, rfl, HA, HK1, HO_7, HB⟩ := hrel; cases gk with
  | zero => exact absurd HA.out (by simp [impl_bytesRead.l0])
  | succ k1 =>
   have H := HA.out; clear HA; simp only [impl_bytesRead.l0] at H
   by_cases c6 : x15_1 < (l0.length : Int)
   rotate_left
   ·rw [if_neg c6] at H; have c6b0 := decide_eq_false c6; clear c6; obtain rfl := Option.some.inj H
    go_wp2
    go_ret
    exact ⟨_, Gv.rt, Gv.kr HO_7.out, Gv.bw⟩

   rw [if_pos c6] at H; have c6b0 := decide_eq_true c6; clear c6
   by_cases c7 : 0 ≤ x15_1
   rotate_left
   ·rw [if_neg c7] at H; cases H
   rw [if_pos c7] at H; have c7b0 := decide_eq_true c7; clear c7
   by_cases c8 : x15_1 < (l0.length : Int)
   rotate_left
   ·rw [if_neg c8] at H; cases H
   rw [if_pos c8] at H; have c8b0 := decide_eq_true c8; clear c8; replace H := Option.bind_eq_some_iff.mp H; obtain ⟨⟨t5, t8⟩, A90, H⟩ := H
   (try dsimp only at H); have A9 := Gv.a0 A90; clear A90; replace H := Option.bind_eq_some_iff.mp H; obtain ⟨t3, A6, H⟩ := H
   (try dsimp only at H); have A10 := Gv.a0 A6; clear A6
   by_cases c11 : x7_1.length + t3.length < 140737488355328
   rotate_left
   ·rw [if_neg c11] at H; cases H
   rw [if_pos c11] at H; have LMc11 := Gv.a0 c11; clear c11; obtain ⟨y2, hy2⟩ : ∃ y_ : List Int, y_ = (x7_1 ++ t3) := ⟨_, rfl⟩
   replace H : (impl_bytesRead.l0 k1 a1 a2 y2 l0 (l0.length : Int) (wrap64 (x15_1 + 1))) = some r := by first | (rw [hy2]; with_reducible exact H) | (have H2_ := (Option.bind_some _ _).symm.trans H; rw [hy2]; with_reducible exact H2_) | (have H2_ := (Option.bind_some _ _).symm.trans H; with_reducible exact H2_) | with_reducible exact H | (rw [hy2]; exact H) | exact H
   have Ny2 := Gv.a0 hy2; clear hy2; have H' := Gv.a0 H; clear H; have p0 : 0 ≤ (x15_1 : Int) := Gv.od; have q0 : x15_1 < (l0.length : Int) := Gv.od; obtain ⟨ad0, e0, u0_0⟩ := Kd.at_string HR0.out x15_1 p0 q0; cases e0; replace u0_0 := Gv.bx HB.out u0_0; replace p0 := eq_true p0; replace q0 := eq_true q0
   go_wp2_with (first | ((with_reducible refine gate_callee (f := 82) rfl ?_); refine goesL_ (some 22) rfl rfl Tryz.func82 (by kernel_rfl) rfl #[.string (rdOf ByteArray.empty l0 x15_1), .int .i64 a1, .int .i64 32] rfl Gv.lm ?_; (with_reducible refine (strconv_ParseUint.calls (rdOf ByteArray.empty l0 x15_1) a1 32 t5 t8 _ (hE.out.below Gv.bw) A9.out).mono ?_); rintro e w12 ⟨ev_, rfl, hb⟩; refine ⟨_, rfl, ?_⟩; replace HO_7 := Gv.a0 (Kd.R_below (Gv.kr HO_7.out) hb); replace HB := Gv.hb hb; clear hb) | ((with_reducible refine gate_callee (f := 83) rfl ?_); refine goesL_ (some 29) rfl rfl Tryz.func83 (by kernel_rfl) rfl #[.int .i64 (wrap64 (t5)), .int .i64 a2] rfl Gv.lm ?_; (with_reducible refine (impl_put.calls k1 (wrap64 (t5)) a2 t3 _ A10.out).mono ?_); rintro e w13 ⟨v11, rfl, ho0, hb⟩; refine ⟨_, rfl, ?_⟩; have HO4 := Gv.a0 (Kd.R_lower (Kd.R_new' ho0 (Kd.R_lt (Gv.kr HO_7.out))) (below_size Gv.bw)); replace HO_7 := Gv.a0 (Kd.R_elder' (Gv.kr HO_7.out) (Kd.R_base ho0) hb); replace HB := Gv.hb hb; clear hb ho0; obtain ⟨Ao15, co15, eo15⟩ := Kd.R_slice HO4.out; subst eo15) | ((with_reducible refine gate_builtin (b := .append) (xs := #[.tmp 25, .tmp 29]) rfl ?_); at_builtin; refine Kd.R_append_rows (Kd.int .u8) (w0 := w) w.heap.size rfl (.tmp 25) (.tmp 29) 62 5 (.int .u8 0) 1 rfl Tryz.underlying62 info5 rfl (by decide) (by omega) u7 x7_1 t3 _ _ _ (fun k_ => some k_ ≠ (.slice Ao15 t3.length co15 : Value).ownBlock) (fun _ => False) rfl rfl ?aO ?aR (fun _ _ h => h) (fun _ h => h.elim) ?aF ?aB ?aS ?aL ?_; (case aR => repeat (first | exact (Kd.R_reads' HO4.out).2.2 | (with_reducible refine Kd.C_alloc ?_ _) | (with_reducible refine Kd.C_drewN ?_ _) | (with_reducible refine Kd.C_drew ?_))); (case aB => exact Gv.bw); (case aF => exact (fun k_ hk => Kd.fresh' (Kd.R_lt (Gv.kr HO4.out)) k_ hk)); (case aO => exact (by (with_reducible repeat (first | apply Kd.R_alloc | apply Kd.R_drewN | apply Kd.R_drew)); exact Kd.R_mono HO_7.out (fun _ hk => hk.2))); (case aS => exact (below_size Gv.bw)); (case aL => have := LMc11.out; omega); intro v12 w14 ho hb hg hat; rw [← Ny2.out] at ho; replace HO4 := Gv.a0 (Kd.R_after (ok := (fun _ => True)) (Gv.kr HO4.out) hg hat); replace HB := Gv.a0 (hb); have HO9 := Gv.a0 (ho); clear HO_7 ho hb hg hat))
   go_roundg k1
   case measure => have := HK1.out; omega
   case rel => exact ⟨(y2), (wrap64 (x15_1 + 1)), Gv.rq, H', ⟨by have := HK1.out; omega⟩, ⟨by (with_reducible repeat (first | apply Kd.R_alloc | apply Kd.R_drewN | apply Kd.R_drew)); exact Kd.R_mono HO9.out (fun _ hk => trivial)⟩, ⟨Gv.bw⟩⟩
/-! ### strings_Contains: function 53 -/
def strings_Contains.f (a0 : ByteArray) (a1 : ByteArray) : Option (Bool) := if a1 = (⟨#[58]⟩ : ByteArray) then some (decide (0 ≤ Lib.indexByte a0.data.toList 58)) else none
set_option maxHeartbeats 8000000 in
set_option maxRecDepth 100000 in
theorem strings_Contains.calls (a0 : ByteArray) (a1 : ByteArray) (r : Bool) (w : World) (h : strings_Contains.f a0 a1 = some r) :
  Calls Tryz.prog 53 #[.string a0, .string a1] w fun e w' => e = .returned (.bool r) ∧ Below w.heap.size w w' := by
 unfold strings_Contains.f at h
 by_cases hs : a1 = (⟨#[58]⟩ : ByteArray)
 ·rw [if_pos hs] at h; obtain rfl := Option.some.inj h; subst hs; exact La.contains_calls a0 58 w
 ·rw [if_neg hs] at h; cases h

/-! ### impl_beOf: function 84 -/
def impl_beOf.l0 : Nat → Int → List Int → Int → Int → Option (Int)
 | 0, _, _, _, _ => none
 | k + 1, x3, x6, x7, x8 => if x8 < x7 then (if 0 ≤ x8 then (if x8 < (x6.length : Int) then (impl_beOf.l0 k (Go.bits .or .i64 (wrap64 (x3 * 256)) (wrap64 (rd x6 x8))) x6 x7 (wrap64 (x8 + 1))) else (none)) else (none)) else (some x3)
def impl_beOf.f (k : Nat) (l0 : List Int) : Option (Int) := impl_beOf.l0 k 0 l0 (l0.length : Int) 0
set_option maxHeartbeats 8000000 in
set_option maxRecDepth 100000 in
theorem impl_beOf.calls (k : Nat) (A0 : Option Addr) (c0 : Nat) (l0 : List Int) (r : Int) (w : World) (hr0 : Kd.C (Kd.int .u8) w A0 l0.length l0) (hc0 : l0.length ≤ c0) (h : impl_beOf.f k l0 = some r) :
  Calls Tryz.prog 84 #[.slice A0 l0.length c0] w fun e w' => e = .returned (.int .i64 r) ∧ Drawn0 w w' := by
 have HR0 := Gv.a0 hr0; have HC0 := Gv.a0 hc0; clear hr0 hc0; unfold impl_beOf.f at h; have H := h; clear h; have H' := Gv.a0 H; clear H
 go_enter Tryz.func84, Tryz.ntmps84
 go_wp2
 go_loopg [3, 8] k (fun kq v3 v8 w' => ∃ (x3_1 : Int) (x8_1 : Int), v3 = .int .i64 x3_1 ∧ v8 = .int .i64 x8_1 ∧ Aside0 (impl_beOf.l0 kq x3_1 l0 (l0.length : Int) x8_1 = some r) ∧ Aside0 (kq ≤ k) ∧ Drawn0 w w')
 case atStart => exact ⟨(0), (0), Gv.rq, Gv.rq, H', ⟨Nat.le_refl _⟩, by repeat (first | exact Drawn0.refl _ | apply Drawn0.step)⟩
 case round =>
  clear H'; obtain ⟨x3_1, x8_1, rfl, rfl, HA, HK1, ⟨m1, rfl⟩⟩ := hrel; cases gk with
  | zero => exact absurd HA.out (by simp [impl_beOf.l0])
  | succ k1 =>
   have H := HA.out; clear HA; simp only [impl_beOf.l0] at H
   by_cases c2 : x8_1 < (l0.length : Int)
   rotate_left
   ·rw [if_neg c2] at H; have c2b0 := decide_eq_false c2; clear c2; obtain rfl := Option.some.inj H
    go_wp2
    go_ret
    exact ⟨by first | rfl | (simp; done) | (simp [Int.tdiv_eq_ediv_of_nonneg]; done) | (simp [*]; done), by repeat (first | exact Drawn0.refl _ | apply Drawn0.step)⟩

   rw [if_pos c2] at H; have c2b0 := decide_eq_true c2; clear c2
   by_cases c3 : 0 ≤ x8_1
   rotate_left
   ·rw [if_neg c3] at H; cases H
   rw [if_pos c3] at H; have c3b0 := decide_eq_true c3; clear c3
   by_cases c4 : x8_1 < (l0.length : Int)
   ·rw [if_pos c4] at H; have c4b0 := decide_eq_true c4; clear c4; have H' := Gv.a0 H; clear H; have p0 : 0 ≤ (x8_1 : Int) := Gv.od; have q0 : x8_1 < (l0.length : Int) := Gv.od; obtain ⟨ad0, e0, u0_0⟩ := Kd.at_int HR0.out x8_1 p0 q0; cases e0; replace p0 := eq_true p0; replace q0 := eq_true q0
    go_wp2
    go_roundg k1
    case measure => have := HK1.out; omega
    case rel => exact ⟨(Go.bits .or .i64 (wrap64 (x3_1 * 256)) (wrap64 (rd l0 x8_1))), (wrap64 (x8_1 + 1)), Gv.rq, Gv.rq, H', ⟨by have := HK1.out; omega⟩, by repeat (first | exact Drawn0.refl _ | apply Drawn0.step)⟩
   ·rw [if_neg c4] at H; cases H
/-! ### impl_AddrOf: function 54 -/
def impl_AddrOf.f (k : Nat) (l0 : List Int) : Option (Int × Int × Int × Int × Int × Bool) := if (l0.length : Int) = 4 then ((impl_beOf.f k l0).bind fun t347 => (some (4, 0, 0, 0, t347, true))) else (if (l0.length : Int) = 16 then (if 4 ≤ (l0.length : Int) then ((impl_beOf.f k (l0.take 4)).bind fun t349 => (if 4 ≤ 8 then (if 8 ≤ (l0.length : Int) then ((impl_beOf.f k ((l0.take 8).drop 4)).bind fun t351 => (if 8 ≤ 12 then (if 12 ≤ (l0.length : Int) then ((impl_beOf.f k ((l0.take 12).drop 8)).bind fun t353 => ((impl_beOf.f k (l0.drop 12)).bind fun t355 => (some (6, t349, t351, t353, t355, true)))) else (none)) else (none))) else (none)) else (none))) else (none)) else (some (0, 0, 0, 0, 0, false)))
def impl_AddrOf.T5 : Bool × List (List Nat × List Nat) := (true, [([], []), ([0], [0]), ([1], [1]), ([], []), ([3], [3]), ([4, 2], [4]), ([], []), ([6], [6]), ([7, 5], [7]), ([], []), ([9], [9]), ([10, 8], [10]), ([2, 5, 8, 11], [2, 5, 8, 11]), ([12, 11, 0, 1, 2, 3, 4, 5, 6, 7, 8, 9, 10, 11, 12], [12]), ([13, 0, 1, 2, 3, 4, 5, 6, 7, 8, 9, 10, 11, 12, 13], [])])
def impl_AddrOf.B5 : List Nat := [0, 1, 3, 0, 8, 31, 0, 64, 255, 0, 512, 2047, 4095, 8191, 16383]
theorem impl_AddrOf.tab5 : rtab .any (opsOf Tryz.f54 5) = impl_AddrOf.T5 := by kernel_rfl
theorem impl_AddrOf.bits5 : waitsOk impl_AddrOf.T5.2 impl_AddrOf.B5 = true := by kernel_rfl
set_option maxHeartbeats 8000000 in
set_option maxRecDepth 100000 in
theorem impl_AddrOf.calls (k : Nat) (A0 : Option Addr) (c0 : Nat) (l0 : List Int) (r1 : Int) (r2 : Int) (r3 : Int) (r4 : Int) (r5 : Int) (r6 : Bool) (w : World) (hr0 : Kd.C (Kd.int .u8) w A0 l0.length l0) (hc0 : l0.length ≤ c0) (h : impl_AddrOf.f k l0 = some (r1, r2, r3, r4, r5, r6)) :
  Calls Tryz.prog 54 #[.slice A0 l0.length c0] w fun e w' => e = .returned (.tuple #[.agg #[.int .i64 r1, .int .i64 r2, .int .i64 r3, .int .i64 r4, .int .i64 r5], .bool r6]) ∧ Below w.heap.size w w' := by
 have hu23 := Tryz.underlying23; have HR0 := Gv.a0 hr0; have HC0 := Gv.a0 hc0; clear hr0 hc0; have HB := Gv.a0 (Below.refl w.heap.size w); unfold impl_AddrOf.f at h; have H := h; clear h
 by_cases c2 : (l0.length : Int) = 4
 ·rw [if_pos c2] at H; have c2b0 : ((l0.length : Int) == 4) = true := beq_iff_eq.mpr c2; have c2b1 : ((l0.length : Int) != 4) = false := bne_eq_false_iff_eq.mpr c2; clear c2; replace H := Option.bind_eq_some_iff.mp H; obtain ⟨t8, A30, H⟩ := H
  (try dsimp only at H); have A3 := Gv.a0 A30; clear A30; simp only [Option.some.injEq, Prod.mk.injEq] at H; obtain ⟨rfl, rfl, rfl, rfl, rfl, rfl⟩ := H
  go_enter Tryz.func54, Tryz.ntmps54
  go_wp2_with (first | ((with_reducible refine gate_dst (N := 2) rfl ?_); refine Gv.bev 2 23 #[.int .i64 0, .int .i64 0, .int .i64 0, .int .i64 0, .int .i64 0] ?_; intro gb0 hg w4 hbox hb; have BK0 := Gv.a0 (hbox); have GW0 := Gv.a0 ((Gv.ble hg Gv.bw : w.heap.size ≤ gb0)); have GE0 := GW0; replace HB := Gv.hb hb; clear hb hbox hg) | ((with_reducible refine gate_callee (f := 84) rfl ?_); refine goesL_ (some 9) rfl rfl Tryz.func84 (by kernel_rfl) rfl #[.slice A0 l0.length c0] rfl Gv.lm ?_; (with_reducible refine (impl_beOf.calls k _ _ l0 t8 _ ?side1 ?side2 A3.out).mono ?_); (case side1 => exact Gv.sd (Kd.C_below HR0.out HB.out)); (case side2 => exact HC0.out); rintro e w' ⟨rfl, ⟨nd, rfl⟩⟩; refine ⟨_, rfl, ?_⟩; (try (rw [drewN_self w4]; generalize hq_ : World.drewN w4 _ = w4; have n0_ : Aside0 (w4.heap[gb0]? = some (.cells #[.int .i64 0, .int .i64 0, .int .i64 0, .int .i64 0, .int .i64 0] 23 (0, 0))) := ⟨by rw [← hq_]; exact Gv.bk⟩; have n1_ : Aside0 (Below w.heap.size w w4) := ⟨by rw [← hq_]; exact Gv.bw⟩; clear BK0 HB hq_; have BK0 := n0_; have HB := n1_; clear n0_ n1_)); obtain ⟨z5_0, z5_1, z5_2, z5_3, z5_4⟩ := Gv.c5 BK0.out; obtain ⟨o5_0, o5_1, o5_2, o5_3, o5_4⟩ := Gv.f5 BK0.out))
  refine bodyPost_ret (results_ct rfl _ _ gb0 23 #[.int .i64 4, .int .i64 0, .int .i64 0, .int .i64 0, .int .i64 t8] (0, 0) _ rfl (by (with_reducible repeat (first | refine blk_drewN ?_ _ | refine blk_drew ?_ | refine blk_alloc ?_ _)); refine blk_put (cs := #[.int .i64 4, .int .i64 0, .int .i64 0, .int .i64 0, .int .i64 0]) ?_ 4 _ rfl; (with_reducible repeat (first | refine blk_drewN ?_ _ | refine blk_drew ?_ | refine blk_alloc ?_ _)); refine blk_put (cs := #[.int .i64 4, .int .i64 0, .int .i64 0, .int .i64 0, .int .i64 0]) ?_ 3 _ rfl; (with_reducible repeat (first | refine blk_drewN ?_ _ | refine blk_drew ?_ | refine blk_alloc ?_ _)); refine blk_put (cs := #[.int .i64 4, .int .i64 0, .int .i64 0, .int .i64 0, .int .i64 0]) ?_ 2 _ rfl; (with_reducible repeat (first | refine blk_drewN ?_ _ | refine blk_drew ?_ | refine blk_alloc ?_ _)); refine blk_put (cs := #[.int .i64 4, .int .i64 0, .int .i64 0, .int .i64 0, .int .i64 0]) ?_ 1 _ rfl; (with_reducible repeat (first | refine blk_drewN ?_ _ | refine blk_drew ?_ | refine blk_alloc ?_ _)); refine blk_put (cs := #[.int .i64 0, .int .i64 0, .int .i64 0, .int .i64 0, .int .i64 0]) ?_ 0 _ rfl; (with_reducible repeat (first | refine blk_drewN ?_ _ | refine blk_drew ?_ | refine blk_alloc ?_ _)); exact BK0.out) Tryz.underlying23 rfl (by kernel_rfl)) rfl ?_; exact ⟨Gv.rt, Gv.bw⟩
 ·rw [if_neg c2] at H; have c2b0 : ((l0.length : Int) == 4) = false := beq_eq_false_iff_ne.mpr c2; have c2b1 : ((l0.length : Int) != 4) = true := bne_iff_ne.mpr c2
  by_cases c6 : (l0.length : Int) = 16
  rotate_left
  ·rw [if_neg c6] at H; have c6b0 : ((l0.length : Int) == 16) = false := beq_eq_false_iff_ne.mpr c6; have c6b1 : ((l0.length : Int) != 16) = true := bne_iff_ne.mpr c6; simp only [Option.some.injEq, Prod.mk.injEq] at H; obtain ⟨rfl, rfl, rfl, rfl, rfl, rfl⟩ := H
   go_enter Tryz.func54, Tryz.ntmps54
   go_wp2_with (first | ((with_reducible refine gate_dst (N := 2) rfl ?_); refine Gv.bev 2 23 #[.int .i64 0, .int .i64 0, .int .i64 0, .int .i64 0, .int .i64 0] ?_; intro gb0 hg w28 hbox hb; have BK0 := Gv.a0 (hbox); have GW0 := Gv.a0 ((Gv.ble hg Gv.bw : w.heap.size ≤ gb0)); have GE0 := GW0; replace HB := Gv.hb hb; clear hb hbox hg; obtain ⟨z29_0, z29_1, z29_2, z29_3, z29_4⟩ := Gv.c5 BK0.out; obtain ⟨o29_0, o29_1, o29_2, o29_3, o29_4⟩ := Gv.f5 BK0.out))
   refine bodyPost_ret (results_ct rfl _ _ gb0 23 #[.int .i64 0, .int .i64 0, .int .i64 0, .int .i64 0, .int .i64 0] (0, 0) _ rfl (by (with_reducible repeat (first | refine blk_drewN ?_ _ | refine blk_drew ?_ | refine blk_alloc ?_ _)); refine blk_put (cs := #[.int .i64 0, .int .i64 0, .int .i64 0, .int .i64 0, .int .i64 0]) ?_ 4 _ rfl; (with_reducible repeat (first | refine blk_drewN ?_ _ | refine blk_drew ?_ | refine blk_alloc ?_ _)); refine blk_put (cs := #[.int .i64 0, .int .i64 0, .int .i64 0, .int .i64 0, .int .i64 0]) ?_ 3 _ rfl; (with_reducible repeat (first | refine blk_drewN ?_ _ | refine blk_drew ?_ | refine blk_alloc ?_ _)); refine blk_put (cs := #[.int .i64 0, .int .i64 0, .int .i64 0, .int .i64 0, .int .i64 0]) ?_ 2 _ rfl; (with_reducible repeat (first | refine blk_drewN ?_ _ | refine blk_drew ?_ | refine blk_alloc ?_ _)); refine blk_put (cs := #[.int .i64 0, .int .i64 0, .int .i64 0, .int .i64 0, .int .i64 0]) ?_ 1 _ rfl; (with_reducible repeat (first | refine blk_drewN ?_ _ | refine blk_drew ?_ | refine blk_alloc ?_ _)); refine blk_put (cs := #[.int .i64 0, .int .i64 0, .int .i64 0, .int .i64 0, .int .i64 0]) ?_ 0 _ rfl; (with_reducible repeat (first | refine blk_drewN ?_ _ | refine blk_drew ?_ | refine blk_alloc ?_ _)); exact BK0.out) Tryz.underlying23 rfl (by kernel_rfl)) rfl ?_; exact ⟨Gv.rt, Gv.bw⟩

  rw [if_pos c6] at H; have c6b0 : ((l0.length : Int) == 16) = true := beq_iff_eq.mpr c6; have c6b1 : ((l0.length : Int) != 16) = false := bne_eq_false_iff_eq.mpr c6; clear c6
  by_cases c7 : 4 ≤ (l0.length : Int)
  rotate_left
  ·rw [if_neg c7] at H; cases H
  rw [if_pos c7] at H; have c7b0 := eq_true c7; have c7b1 := decide_eq_true c7; clear c7; replace H := Option.bind_eq_some_iff.mp H; obtain ⟨t1, A80, H⟩ := H
  (try dsimp only at H); have A8 := Gv.a0 A80; clear A80
  by_cases c9 : 4 ≤ 8
  rotate_left
  ·rw [if_neg c9] at H; cases H
  rw [if_pos c9] at H; have c9b0 := eq_true c9; have c9b1 := decide_eq_true c9; clear c9
  by_cases c10 : 8 ≤ (l0.length : Int)
  rotate_left
  ·rw [if_neg c10] at H; cases H
  rw [if_pos c10] at H; have c10b0 := eq_true c10; have c10b1 := decide_eq_true c10; clear c10; replace H := Option.bind_eq_some_iff.mp H; obtain ⟨t2, A9, H⟩ := H
  (try dsimp only at H); have A11 := Gv.a0 A9; clear A9
  by_cases c12 : 8 ≤ 12
  rotate_left
  ·rw [if_neg c12] at H; cases H
  rw [if_pos c12] at H; have c12b0 := eq_true c12; have c12b1 := decide_eq_true c12; clear c12
  by_cases c13 : 12 ≤ (l0.length : Int)
  rotate_left
  ·rw [if_neg c13] at H; cases H
  rw [if_pos c13] at H; have c13b0 := eq_true c13; have c13b1 := decide_eq_true c13; clear c13; replace H := Option.bind_eq_some_iff.mp H; obtain ⟨t7, A10, H⟩ := H
  (try dsimp only at H); have A14 := Gv.a0 A10; clear A10; have c15b0 := eq_true (Gv.od : 12 ≤ (l0.length : Int)); replace H := Option.bind_eq_some_iff.mp H; obtain ⟨t11, A12, H⟩ := H
  (try dsimp only at H); have A16 := Gv.a0 A12; clear A12; simp only [Option.some.injEq, Prod.mk.injEq] at H; obtain ⟨rfl, rfl, rfl, rfl, rfl, rfl⟩ := H
  go_enter Tryz.func54, Tryz.ntmps54
  try go_wp2_with (first | ((with_reducible refine gate_dst (N := 2) rfl ?_); refine Gv.bev 2 23 #[.int .i64 0, .int .i64 0, .int .i64 0, .int .i64 0, .int .i64 0] ?_; intro gb0 hg w17 hbox hb; have BK0 := Gv.a0 (hbox); have GW0 := Gv.a0 ((Gv.ble hg Gv.bw : w.heap.size ≤ gb0)); have GE0 := GW0; replace HB := Gv.hb hb; clear hb hbox hg))
  replace BK0 := Gv.a0 (blk_drew BK0.out); replace HB := Gv.a0 (below_drew1 HB.out); obtain ⟨i019, hi13, _, hsz19, _⟩ := info_parts info5; obtain ⟨hcut19, hA19, hC19⟩ := print_take_of (P := Tryz.prog) (Value.int .u8) 0 62 5 .i64 Tryz.underlying62 hi13 hsz19 A0 c0 l0 4 (by omega) (Gv.od) HC0.out; have HR3 := Gv.a0 (Kd.C_of_reads (h1 := fun _ => rfl) (hA19 _ (Kd.reads_of_C HR0.out))); have HC3 := Gv.a0 hC19; clear hA19 hC19 hi13 hsz19; obtain ⟨i020, hi14, _, hsz20, _⟩ := info_parts info5; obtain ⟨A20, hcut20, hA20, hC20⟩ := print_mid_of (P := Tryz.prog) (Value.int .u8) 0 62 5 .i64 .i64 Tryz.underlying62 hi14 hsz20 A0 c0 l0 4 8 (by omega) (by first | omega | exact Gv.od) (Gv.od) HC0.out; have HR4 := Gv.a0 (Kd.C_of_reads (h1 := fun _ => rfl) (hA20 _ (Kd.reads_of_C HR0.out))); have HC4 := Gv.a0 hC20; clear hA20 hC20 hi14 hsz20; obtain ⟨i021, hi15, _, hsz21, _⟩ := info_parts info5; obtain ⟨A21, hcut21, hA21, hC21⟩ := print_mid_of (P := Tryz.prog) (Value.int .u8) 0 62 5 .i64 .i64 Tryz.underlying62 hi15 hsz21 A0 c0 l0 8 12 (by omega) (by first | omega | exact Gv.od) (Gv.od) HC0.out; have HR5 := Gv.a0 (Kd.C_of_reads (h1 := fun _ => rfl) (hA21 _ (Kd.reads_of_C HR0.out))); have HC5 := Gv.a0 hC21; clear hA21 hC21 hi15 hsz21; obtain ⟨i022, hi16, _, hsz22, _⟩ := info_parts info5; obtain ⟨A22, hcut22, hA22, hC22⟩ := print_drop_of (P := Tryz.prog) (Value.int .u8) 0 62 5 .i64 Tryz.underlying62 hi16 hsz22 A0 c0 l0 12 (by omega) (Gv.od) HC0.out; have HR6 := Gv.a0 (Kd.C_of_reads (h1 := fun _ => rfl) (hA22 _ (Kd.reads_of_C HR0.out))); have HC6 := Gv.a0 hC22; clear hA22 hC22 hi16 hsz22; refine start_ (n := 15) (S := fun w' => True) (ds := []) #[false, false, false, false, false, false, false, false, false, false, false, false, false, false, false] (by kernel_rfl) rfl rfl trivial (fun hHeld => ?_); refine with_tabW impl_AddrOf.tab5 impl_AddrOf.bits5 (fun HT_ HW_ => ?_); generalize w17.drew = w18 at BK0 HB HR3 HR4 HR5 HR6 hHeld ⊢; refine Gv.pu 0 (some 13) HT_ ?_; refine Gv.pu 1 (some 14) HT_ ?_; refine Gv.pu 3 (some 16) HT_ ?_; refine Gv.pu 4 (some 17) HT_ ?_; refine Gv.pu 6 (some 19) HT_ ?_; refine Gv.pu 7 (some 20) HT_ ?_; refine Gv.pu 9 (some 22) HT_ ?_; refine Gv.pu 10 (some 23) HT_ ?_; refine one_ (i := 2) (N := some 15) #[true, true, true, true, true, false, true, true, false, true, true, false, false, false, false] rfl rfl (one_of HT_.out (by kernel_rfl)) (by decide) (fun K hK => ?_); refine goes_ Tryz.func84 (by kernel_rfl) rfl #[.slice A0 (l0.take 4).length c0] (by rfl) rfl rfl (by (try simp only [List.map_toArray, List.map_cons, List.map_nil]); first | done | (rw [show (l0.take 4).length = 4 from (by rw [List.length_take]; have h_ : (4 : Int) ≤ (l0.length : Int) := Gv.od; omega)] <;> rfl) | rfl | (simp only [List.length_drop, List.length_take]; rfl)) ?_
  with_reducible refine (impl_beOf.calls k _ _ (l0.take 4) t1 _ ?side1 ?side2 A8.out).mono ?_
  (case side1 => exact Gv.sd (Kd.C_below HR3.out HB.out))
  (case side2 => exact HC3.out)
  rintro e w' ⟨rfl, ⟨nd, rfl⟩⟩; refine ⟨_, rfl, ?_⟩; refine hK.out _ _ trivial (fun hHeld => ?_); clear hK K; refine norm_ (a' := ?_) ?_ ?_; rotate_left
  ·show Act.put _ (some 15) _ = _
   simp only [Act.put, List.setIfInBounds_toArray, List.set_cons_zero, List.set_cons_succ, i64_w, i32_w]
   rfl
  refine one_ (i := 5) (N := some 18) #[true, true, true, true, true, true, true, true, false, true, true, false, false, false, false] rfl rfl (one_of HT_.out (by kernel_rfl)) (by decide) (fun K hK => ?_); refine goes_ Tryz.func84 (by kernel_rfl) rfl #[.slice A20 ((l0.take 8).drop 4).length (c0 - 4)] (by rfl) rfl rfl (by (try simp only [List.map_toArray, List.map_cons, List.map_nil]); first | done | (rw [show ((l0.take 8).drop 4).length = (8 - 4) from (by rw [List.length_drop, List.length_take]; have h_ : (8 : Int) ≤ (l0.length : Int) := Gv.od; omega)] <;> rfl) | rfl | (simp only [List.length_drop, List.length_take]; rfl)) ?_
  with_reducible refine (impl_beOf.calls k _ _ ((l0.take 8).drop 4) t2 _ ?side1 ?side2 A11.out).mono ?_
  (case side1 => repeat (first | exact (Kd.C_below HR4.out Gv.bw) | (with_reducible refine Kd.C_alloc ?_ _) | (with_reducible refine Kd.C_drewN ?_ _) | (with_reducible refine Kd.C_drew ?_)))
  (case side2 => exact HC4.out)
  rintro e w' ⟨rfl, ⟨nd, rfl⟩⟩; refine ⟨_, rfl, ?_⟩; refine hK.out _ _ trivial (fun hHeld => ?_); clear hK K; refine norm_ (a' := ?_) ?_ ?_; rotate_left
  ·show Act.put _ (some 18) _ = _
   simp only [Act.put, List.setIfInBounds_toArray, List.set_cons_zero, List.set_cons_succ, i64_w, i32_w]
   rfl
  refine one_ (i := 8) (N := some 21) #[true, true, true, true, true, true, true, true, true, true, true, false, false, false, false] rfl rfl (one_of HT_.out (by kernel_rfl)) (by decide) (fun K hK => ?_); refine goes_ Tryz.func84 (by kernel_rfl) rfl #[.slice A21 ((l0.take 12).drop 8).length (c0 - 8)] (by rfl) rfl rfl (by (try simp only [List.map_toArray, List.map_cons, List.map_nil]); first | done | (rw [show ((l0.take 12).drop 8).length = (12 - 8) from (by rw [List.length_drop, List.length_take]; have h_ : (12 : Int) ≤ (l0.length : Int) := Gv.od; omega)] <;> rfl) | rfl | (simp only [List.length_drop, List.length_take]; rfl)) ?_
  with_reducible refine (impl_beOf.calls k _ _ ((l0.take 12).drop 8) t7 _ ?side1 ?side2 A14.out).mono ?_
  (case side1 => repeat (first | exact (Kd.C_below HR5.out Gv.bw) | (with_reducible refine Kd.C_alloc ?_ _) | (with_reducible refine Kd.C_drewN ?_ _) | (with_reducible refine Kd.C_drew ?_)))
  (case side2 => exact HC5.out)
  rintro e w' ⟨rfl, ⟨nd, rfl⟩⟩; refine ⟨_, rfl, ?_⟩; refine hK.out _ _ trivial (fun hHeld => ?_); clear hK K; refine norm_ (a' := ?_) ?_ ?_; rotate_left
  ·show Act.put _ (some 21) _ = _
   simp only [Act.put, List.setIfInBounds_toArray, List.set_cons_zero, List.set_cons_succ, i64_w, i32_w]
   rfl
  refine one_ (i := 11) (N := some 24) #[true, true, true, true, true, true, true, true, true, true, true, true, false, false, false] rfl rfl (one_of HT_.out (by kernel_rfl)) (by decide) (fun K hK => ?_); refine goes_ Tryz.func84 (by kernel_rfl) rfl #[.slice A22 (l0.drop 12).length (c0 - 12)] (by rfl) rfl rfl (by (try simp only [List.map_toArray, List.map_cons, List.map_nil]); first | done | (rw [show (l0.drop 12).length = (l0.length - 12) from List.length_drop] <;> rfl) | rfl | (simp only [List.length_drop, List.length_take]; rfl)) ?_
  with_reducible refine (impl_beOf.calls k _ _ (l0.drop 12) t11 _ ?side1 ?side2 A16.out).mono ?_
  (case side1 => repeat (first | exact (Kd.C_below HR6.out Gv.bw) | (with_reducible refine Kd.C_alloc ?_ _) | (with_reducible refine Kd.C_drewN ?_ _) | (with_reducible refine Kd.C_drew ?_)))
  (case side2 => exact HC6.out)
  rintro e w' ⟨rfl, ⟨nd, rfl⟩⟩; refine ⟨_, rfl, ?_⟩; refine hK.out _ _ trivial (fun hHeld => ?_); clear hK K; refine norm_ (a' := ?_) ?_ ?_; rotate_left
  ·show Act.put _ (some 24) _ = _
   simp only [Act.put, List.setIfInBounds_toArray, List.set_cons_zero, List.set_cons_succ, i64_w, i32_w]
   rfl
  refine Gv.pu 12 (some 25) HT_ ?_; refine one_ (i := 13) (N := none) #[true, true, true, true, true, true, true, true, true, true, true, true, true, true, false] rfl rfl (one_of HT_.out (by kernel_rfl)) (by decide) (fun K hK => ?_); have hs23 : w18.cell? ⟨gb0, 0, none⟩ = some (.int .i64 0) := (blk_cell BK0.out 0).trans rfl; have hfs23 := blk_frozen BK0.out 0; have hs24 : w18.cell? ⟨gb0, 1, none⟩ = some (.int .i64 0) := (blk_cell BK0.out 1).trans rfl; have hfs24 := blk_frozen BK0.out 1; have hs25 : w18.cell? ⟨gb0, 2, none⟩ = some (.int .i64 0) := (blk_cell BK0.out 2).trans rfl; have hfs25 := blk_frozen BK0.out 2; have hs26 : w18.cell? ⟨gb0, 3, none⟩ = some (.int .i64 0) := (blk_cell BK0.out 3).trans rfl; have hfs26 := blk_frozen BK0.out 3; have hs27 : w18.cell? ⟨gb0, 4, none⟩ = some (.int .i64 0) := (blk_cell BK0.out 4).trans rfl; have hfs27 := blk_frozen BK0.out 4; refine skip_ (w1 := ?_) (by rfl) rfl ?_ ?_; rotate_left
  ·go_simp
   rfl
  refine hK.out _ _ trivial (fun hHeld => ?_); clear hK K; refine Gv.pu 14 (some 3) HT_ ?_; refine done_ (done_of HT_.out (by kernel_rfl)) ?_
  try go_wp2
  refine bodyPost_ret (results_ct rfl _ _ gb0 23 #[.int .i64 6, .int .i64 t1, .int .i64 t2, .int .i64 t7, .int .i64 t11] (0, 0) _ rfl (by (with_reducible repeat (first | refine blk_drewN ?_ _ | refine blk_drew ?_ | refine blk_alloc ?_ _)); refine blk_put (cs := #[.int .i64 6, .int .i64 t1, .int .i64 t2, .int .i64 t7, .int .i64 0]) ?_ 4 _ rfl; (with_reducible repeat (first | refine blk_drewN ?_ _ | refine blk_drew ?_ | refine blk_alloc ?_ _)); refine blk_put (cs := #[.int .i64 6, .int .i64 t1, .int .i64 t2, .int .i64 0, .int .i64 0]) ?_ 3 _ rfl; (with_reducible repeat (first | refine blk_drewN ?_ _ | refine blk_drew ?_ | refine blk_alloc ?_ _)); refine blk_put (cs := #[.int .i64 6, .int .i64 t1, .int .i64 0, .int .i64 0, .int .i64 0]) ?_ 2 _ rfl; (with_reducible repeat (first | refine blk_drewN ?_ _ | refine blk_drew ?_ | refine blk_alloc ?_ _)); refine blk_put (cs := #[.int .i64 6, .int .i64 0, .int .i64 0, .int .i64 0, .int .i64 0]) ?_ 1 _ rfl; (with_reducible repeat (first | refine blk_drewN ?_ _ | refine blk_drew ?_ | refine blk_alloc ?_ _)); refine blk_put (cs := #[.int .i64 0, .int .i64 0, .int .i64 0, .int .i64 0, .int .i64 0]) ?_ 0 _ rfl; (with_reducible repeat (first | refine blk_drewN ?_ _ | refine blk_drew ?_ | refine blk_alloc ?_ _)); exact BK0.out) Tryz.underlying23 rfl (by kernel_rfl)) rfl ?_; exact ⟨Gv.rt, Gv.bw⟩
/-! ### impl_NumText: function 29 -/
def impl_NumText.f (a0 : Int) : Option (ByteArray) := if -9223372036854775808 ≤ a0 ∧ a0 ≤ 9223372036854775807 then some (⟨(Lib.itoa a0).toArray⟩ : ByteArray) else none
set_option maxHeartbeats 8000000 in
set_option maxRecDepth 100000 in
theorem impl_NumText.calls (a0 : Int) (r : ByteArray) (w : World) (hE : La.Env w) (h : impl_NumText.f a0 = some r) :
  Calls Tryz.prog 29 #[.int .i64 a0] w fun e w' => e = .returned (.string r) ∧ Below w.heap.size w w' := by
 exact La.numText a0 r w hE h

/-! ### strings_Join: function 34 -/
def strings_Join.f (l0 : List ByteArray) (a1 : ByteArray) : Option (ByteArray) := if 1 ≤ l0.length ∧ l0.length ≤ 1000 ∧ (Lib.join (l0.map (·.data.toList)) a1.data.toList).length ≤ 140737488355328 then some (⟨(Lib.join (l0.map (·.data.toList)) a1.data.toList).toArray⟩ : ByteArray) else none
set_option maxHeartbeats 8000000 in
set_option maxRecDepth 100000 in
theorem strings_Join.calls (A0 : Option Addr) (c0 : Nat) (l0 : List ByteArray) (a1 : ByteArray) (r : ByteArray) (w : World) (hr0 : Kd.C Kd.string w A0 l0.length l0) (hc0 : l0.length ≤ c0) (h : strings_Join.f l0 a1 = some r) :
  Calls Tryz.prog 34 #[.slice A0 l0.length c0, .string a1] w fun e w' => e = .returned (.string r) ∧ Below w.heap.size w w' := by
 exact La.join_calls A0 c0 l0 a1 r w hr0 hc0 h

/-! ### impl_within: function 58 -/
def impl_within.f (a0 : Int) (a1 : Int) (a2 : Int) : Option (Bool) := if a0 ≥ a1 then (some (decide (a0 ≤ a2))) else (some false)
set_option maxHeartbeats 8000000 in
set_option maxRecDepth 100000 in
theorem impl_within.calls (a0 : Int) (a1 : Int) (a2 : Int) (r : Bool) (w : World) (h : impl_within.f a0 a1 a2 = some r) :
  Calls Tryz.prog 58 #[.int .i64 a0, .int .i64 a1, .int .i64 a2] w fun e w' => e = .returned (.bool r) ∧ Drawn0 w w' := by
 unfold impl_within.f at h; have H := h; clear h
 by_cases c4 : a0 ≥ a1
 ·rw [if_pos c4] at H; have c4b0 : decide (a1 ≤ a0) = true := decide_eq_true c4; clear c4; obtain rfl := Option.some.inj H
  go_enter Tryz.func58, Tryz.ntmps58
  go_wp2
  go_ret
  exact ⟨by first | rfl | (simp; done) | (simp [Int.tdiv_eq_ediv_of_nonneg]; done) | (simp [*]; done), by repeat (first | exact Drawn0.refl _ | apply Drawn0.step)⟩
 ·rw [if_neg c4] at H; have c4b0 : decide (a1 ≤ a0) = false := decide_eq_false c4; clear c4; obtain rfl := Option.some.inj H
  go_enter Tryz.func58, Tryz.ntmps58
  go_wp2
  go_ret
  exact ⟨by first | rfl | (simp; done) | (simp [Int.tdiv_eq_ediv_of_nonneg]; done) | (simp [*]; done), by repeat (first | exact Drawn0.refl _ | apply Drawn0.step)⟩

/-! ### impl_isLong: function 102 -/
def impl_isLong.f (a0 : Int) : Option (Bool) := (impl_within.f a0 0 4294967295).bind fun t356 => (some t356)
set_option maxHeartbeats 8000000 in
set_option maxRecDepth 100000 in
theorem impl_isLong.calls (a0 : Int) (r : Bool) (w : World) (h : impl_isLong.f a0 = some r) :
  Calls Tryz.prog 102 #[.int .i64 a0] w fun e w' => e = .returned (.bool r) ∧ Drawn0 w w' := by
 unfold impl_isLong.f at h; have H := h; clear h; replace H := Option.bind_eq_some_iff.mp H; obtain ⟨t0, A20, H⟩ := H
 (try dsimp only at H); have A2 := Gv.a0 A20; clear A20; obtain rfl := Option.some.inj H
 go_enter Tryz.func102, Tryz.ntmps102
 go_wp2_with (first | ((with_reducible refine gate_callee (f := 58) rfl ?_); refine goesL_ (some 4) rfl rfl Tryz.func58 (by kernel_rfl) rfl #[.int .i64 a0, .int .i64 0, .int .i64 4294967295] rfl Gv.lm ?_; (with_reducible refine (impl_within.calls a0 0 4294967295 t0 _ A2.out).mono ?_); rintro e w' ⟨rfl, ⟨nd, rfl⟩⟩; refine ⟨_, rfl, ?_⟩))
 go_ret
 exact ⟨by first | rfl | (simp; done) | (simp [Int.tdiv_eq_ediv_of_nonneg]; done) | (simp [*]; done), by repeat (first | exact Drawn0.refl _ | apply Drawn0.step)⟩

/-! ### impl_AddrOk: function 87 -/
def impl_AddrOk.f (a0_0 : Int) (a0_1 : Int) (a0_2 : Int) (a0_3 : Int) (a0_4 : Int) : Option (Bool) := if a0_0 = 4 then (if a0_1 = 0 then (if a0_2 = 0 then (if a0_3 = 0 then ((impl_isLong.f a0_4).bind fun t358 => (some t358)) else (some false)) else (some false)) else (some false)) else (if a0_0 = 6 then ((impl_isLong.f a0_1).bind fun t359 => (if t359 = true then ((impl_isLong.f a0_2).bind fun t360 => (if t360 = true then ((impl_isLong.f a0_3).bind fun t361 => (if t361 = true then ((impl_isLong.f a0_4).bind fun t362 => (some t362)) else (some false))) else (some false))) else (some false))) else (some false))
set_option maxHeartbeats 8000000 in
set_option maxRecDepth 100000 in
theorem impl_AddrOk.calls (a0_0 : Int) (a0_1 : Int) (a0_2 : Int) (a0_3 : Int) (a0_4 : Int) (r : Bool) (w : World) (h : impl_AddrOk.f a0_0 a0_1 a0_2 a0_3 a0_4 = some r) :
  Calls Tryz.prog 87 #[.agg #[.int .i64 a0_0, .int .i64 a0_1, .int .i64 a0_2, .int .i64 a0_3, .int .i64 a0_4]] w fun e w' => e = .returned (.bool r) ∧ Below w.heap.size w w' := by
 have hu23 := Tryz.underlying23; have HB := Gv.a0 (Below.refl w.heap.size w); unfold impl_AddrOk.f at h; have H := h; clear h
 by_cases c2 : a0_0 = 4
 ·rw [if_pos c2] at H; have c2b0 : (a0_0 == 4) = true := beq_iff_eq.mpr c2; have c2b1 : (a0_0 != 4) = false := bne_eq_false_iff_eq.mpr c2; clear c2
  by_cases c3 : a0_1 = 0
  rotate_left
  ·rw [if_neg c3] at H; have c3b0 : (a0_1 == 0) = false := beq_eq_false_iff_ne.mpr c3; have c3b1 : (a0_1 != 0) = true := bne_iff_ne.mpr c3; obtain rfl := Option.some.inj H
   go_enter Tryz.func87, Tryz.ntmps87
   go_wp2_with (first | ((with_reducible refine gate_dst (N := 1) rfl ?_); refine Gv.bev 1 23 #[.int .i64 a0_0, .int .i64 a0_1, .int .i64 a0_2, .int .i64 a0_3, .int .i64 a0_4] ?_; intro gb0 hg w13 hbox hb; have BK0 := Gv.a0 (hbox); have GW0 := Gv.a0 ((Gv.ble hg Gv.bw : w.heap.size ≤ gb0)); have GE0 := GW0; replace HB := Gv.hb hb; clear hb hbox hg; obtain ⟨z14_0, z14_1, z14_2, z14_3, z14_4⟩ := Gv.c5 BK0.out; obtain ⟨o14_0, o14_1, o14_2, o14_3, o14_4⟩ := Gv.f5 BK0.out))
   go_ret
   exact ⟨Gv.rt, Gv.bw⟩
  rw [if_pos c3] at H; have c3b0 : (a0_1 == 0) = true := beq_iff_eq.mpr c3; have c3b1 : (a0_1 != 0) = false := bne_eq_false_iff_eq.mpr c3; clear c3
  by_cases c4 : a0_2 = 0
  rotate_left
  ·rw [if_neg c4] at H; have c4b0 : (a0_2 == 0) = false := beq_eq_false_iff_ne.mpr c4; have c4b1 : (a0_2 != 0) = true := bne_iff_ne.mpr c4; obtain rfl := Option.some.inj H
   go_enter Tryz.func87, Tryz.ntmps87
   go_wp2_with (first | ((with_reducible refine gate_dst (N := 1) rfl ?_); refine Gv.bev 1 23 #[.int .i64 a0_0, .int .i64 a0_1, .int .i64 a0_2, .int .i64 a0_3, .int .i64 a0_4] ?_; intro gb0 hg w11 hbox hb; have BK0 := Gv.a0 (hbox); have GW0 := Gv.a0 ((Gv.ble hg Gv.bw : w.heap.size ≤ gb0)); have GE0 := GW0; replace HB := Gv.hb hb; clear hb hbox hg; obtain ⟨z12_0, z12_1, z12_2, z12_3, z12_4⟩ := Gv.c5 BK0.out; obtain ⟨o12_0, o12_1, o12_2, o12_3, o12_4⟩ := Gv.f5 BK0.out))
   go_ret
   exact ⟨Gv.rt, Gv.bw⟩
  rw [if_pos c4] at H; have c4b0 : (a0_2 == 0) = true := beq_iff_eq.mpr c4; have c4b1 : (a0_2 != 0) = false := bne_eq_false_iff_eq.mpr c4; clear c4
  by_cases c5 : a0_3 = 0
  ·rw [if_pos c5] at H; have c5b0 : (a0_3 == 0) = true := beq_iff_eq.mpr c5; have c5b1 : (a0_3 != 0) = false := bne_eq_false_iff_eq.mpr c5; clear c5; replace H := Option.bind_eq_some_iff.mp H; obtain ⟨t5, A60, H⟩ := H
   (try dsimp only at H); have A6 := Gv.a0 A60; clear A60; obtain rfl := Option.some.inj H
   go_enter Tryz.func87, Tryz.ntmps87
   go_wp2_with (first | ((with_reducible refine gate_dst (N := 1) rfl ?_); refine Gv.bev 1 23 #[.int .i64 a0_0, .int .i64 a0_1, .int .i64 a0_2, .int .i64 a0_3, .int .i64 a0_4] ?_; intro gb0 hg w7 hbox hb; have BK0 := Gv.a0 (hbox); have GW0 := Gv.a0 ((Gv.ble hg Gv.bw : w.heap.size ≤ gb0)); have GE0 := GW0; replace HB := Gv.hb hb; clear hb hbox hg; obtain ⟨z8_0, z8_1, z8_2, z8_3, z8_4⟩ := Gv.c5 BK0.out; obtain ⟨o8_0, o8_1, o8_2, o8_3, o8_4⟩ := Gv.f5 BK0.out) | (go_at_call 102; (with_reducible refine (impl_isLong.calls a0_4 t5 _ A6.out).mono ?_); rintro e w' ⟨rfl, ⟨nd, rfl⟩⟩))
   go_ret
   exact ⟨Gv.rt, Gv.bw⟩
  ·rw [if_neg c5] at H; have c5b0 : (a0_3 == 0) = false := beq_eq_false_iff_ne.mpr c5; have c5b1 : (a0_3 != 0) = true := bne_iff_ne.mpr c5; obtain rfl := Option.some.inj H
   go_enter Tryz.func87, Tryz.ntmps87
   go_wp2_with (first | ((with_reducible refine gate_dst (N := 1) rfl ?_); refine Gv.bev 1 23 #[.int .i64 a0_0, .int .i64 a0_1, .int .i64 a0_2, .int .i64 a0_3, .int .i64 a0_4] ?_; intro gb0 hg w9 hbox hb; have BK0 := Gv.a0 (hbox); have GW0 := Gv.a0 ((Gv.ble hg Gv.bw : w.heap.size ≤ gb0)); have GE0 := GW0; replace HB := Gv.hb hb; clear hb hbox hg; obtain ⟨z10_0, z10_1, z10_2, z10_3, z10_4⟩ := Gv.c5 BK0.out; obtain ⟨o10_0, o10_1, o10_2, o10_3, o10_4⟩ := Gv.f5 BK0.out))
   go_ret
   exact ⟨Gv.rt, Gv.bw⟩
 ·rw [if_neg c2] at H; have c2b0 : (a0_0 == 4) = false := beq_eq_false_iff_ne.mpr c2; have c2b1 : (a0_0 != 4) = true := bne_iff_ne.mpr c2
  by_cases c15 : a0_0 = 6
  rotate_left
  ·rw [if_neg c15] at H; have c15b0 : (a0_0 == 6) = false := beq_eq_false_iff_ne.mpr c15; have c15b1 : (a0_0 != 6) = true := bne_iff_ne.mpr c15; obtain rfl := Option.some.inj H
   go_enter Tryz.func87, Tryz.ntmps87
   go_wp2_with (first | ((with_reducible refine gate_dst (N := 1) rfl ?_); refine Gv.bev 1 23 #[.int .i64 a0_0, .int .i64 a0_1, .int .i64 a0_2, .int .i64 a0_3, .int .i64 a0_4] ?_; intro gb0 hg w31 hbox hb; have BK0 := Gv.a0 (hbox); have GW0 := Gv.a0 ((Gv.ble hg Gv.bw : w.heap.size ≤ gb0)); have GE0 := GW0; replace HB := Gv.hb hb; clear hb hbox hg; obtain ⟨z32_0, z32_1, z32_2, z32_3, z32_4⟩ := Gv.c5 BK0.out; obtain ⟨o32_0, o32_1, o32_2, o32_3, o32_4⟩ := Gv.f5 BK0.out))
   go_ret
   exact ⟨Gv.rt, Gv.bw⟩

  rw [if_pos c15] at H; have c15b0 : (a0_0 == 6) = true := beq_iff_eq.mpr c15; have c15b1 : (a0_0 != 6) = false := bne_eq_false_iff_eq.mpr c15; clear c15; replace H := Option.bind_eq_some_iff.mp H; obtain ⟨t6, A1, H⟩ := H
  (try dsimp only at H); have A16 := Gv.a0 A1; clear A1
  by_cases c17 : t6 = true
  rotate_left
  ·replace c17 := Bool.eq_false_iff.mpr c17; subst c17; rw [if_neg (show ¬ (false = true) by decide)] at H
   (try dsimp only at H); obtain rfl := Option.some.inj H
   go_enter Tryz.func87, Tryz.ntmps87
   go_wp2_with (first | ((with_reducible refine gate_dst (N := 1) rfl ?_); refine Gv.bev 1 23 #[.int .i64 a0_0, .int .i64 a0_1, .int .i64 a0_2, .int .i64 a0_3, .int .i64 a0_4] ?_; intro gb0 hg w29 hbox hb; have BK0 := Gv.a0 (hbox); have GW0 := Gv.a0 ((Gv.ble hg Gv.bw : w.heap.size ≤ gb0)); have GE0 := GW0; replace HB := Gv.hb hb; clear hb hbox hg; obtain ⟨z30_0, z30_1, z30_2, z30_3, z30_4⟩ := Gv.c5 BK0.out; obtain ⟨o30_0, o30_1, o30_2, o30_3, o30_4⟩ := Gv.f5 BK0.out) | ((with_reducible refine gate_callee (f := 102) rfl ?_); refine goesL_ (some 29) rfl rfl Tryz.func102 (by kernel_rfl) rfl #[.int .i64 a0_1] rfl Gv.lm ?_; (with_reducible refine (impl_isLong.calls a0_1 false _ A16.out).mono ?_); rintro e w' ⟨rfl, ⟨nd, rfl⟩⟩; refine ⟨_, rfl, ?_⟩))
   go_ret
   exact ⟨Gv.rt, Gv.bw⟩
  subst c17; rw [if_pos rfl] at H
  (try dsimp only at H); replace H := Option.bind_eq_some_iff.mp H; obtain ⟨t7, A2, H⟩ := H
  (try dsimp only at H); have A18 := Gv.a0 A2; clear A2
  by_cases c19 : t7 = true
  rotate_left
  ·replace c19 := Bool.eq_false_iff.mpr c19; subst c19; rw [if_neg (show ¬ (false = true) by decide)] at H
   (try dsimp only at H); obtain rfl := Option.some.inj H
   go_enter Tryz.func87, Tryz.ntmps87
   go_wp2_with (first | ((with_reducible refine gate_dst (N := 1) rfl ?_); refine Gv.bev 1 23 #[.int .i64 a0_0, .int .i64 a0_1, .int .i64 a0_2, .int .i64 a0_3, .int .i64 a0_4] ?_; intro gb0 hg w27 hbox hb; have BK0 := Gv.a0 (hbox); have GW0 := Gv.a0 ((Gv.ble hg Gv.bw : w.heap.size ≤ gb0)); have GE0 := GW0; replace HB := Gv.hb hb; clear hb hbox hg; obtain ⟨z28_0, z28_1, z28_2, z28_3, z28_4⟩ := Gv.c5 BK0.out; obtain ⟨o28_0, o28_1, o28_2, o28_3, o28_4⟩ := Gv.f5 BK0.out) | ((with_reducible refine gate_callee (f := 102) rfl ?_); refine goesL_ (some 29) rfl rfl Tryz.func102 (by kernel_rfl) rfl #[.int .i64 a0_1] rfl Gv.lm ?_; (with_reducible refine (impl_isLong.calls a0_1 true _ A16.out).mono ?_); rintro e w' ⟨rfl, ⟨nd, rfl⟩⟩; refine ⟨_, rfl, ?_⟩) | (go_at_call 102; (with_reducible refine (impl_isLong.calls a0_2 false _ A18.out).mono ?_); rintro e w' ⟨rfl, ⟨nd, rfl⟩⟩))
   go_ret
   exact ⟨Gv.rt, Gv.bw⟩
  subst c19; rw [if_pos rfl] at H
  (try dsimp only at H); replace H := Option.bind_eq_some_iff.mp H; obtain ⟨t8, A3, H⟩ := H
  (try dsimp only at H); have A20 := Gv.a0 A3; clear A3
  by_cases c21 : t8 = true
  ·subst c21; rw [if_pos rfl] at H
   (try dsimp only at H); replace H := Option.bind_eq_some_iff.mp H; obtain ⟨t9, A4, H⟩ := H
   (try dsimp only at H); have A22 := Gv.a0 A4; clear A4; obtain rfl := Option.some.inj H
   go_enter Tryz.func87, Tryz.ntmps87
   go_wp2_with (first | ((with_reducible refine gate_dst (N := 1) rfl ?_); refine Gv.bev 1 23 #[.int .i64 a0_0, .int .i64 a0_1, .int .i64 a0_2, .int .i64 a0_3, .int .i64 a0_4] ?_; intro gb0 hg w23 hbox hb; have BK0 := Gv.a0 (hbox); have GW0 := Gv.a0 ((Gv.ble hg Gv.bw : w.heap.size ≤ gb0)); have GE0 := GW0; replace HB := Gv.hb hb; clear hb hbox hg; obtain ⟨z24_0, z24_1, z24_2, z24_3, z24_4⟩ := Gv.c5 BK0.out; obtain ⟨o24_0, o24_1, o24_2, o24_3, o24_4⟩ := Gv.f5 BK0.out) | ((with_reducible refine gate_callee (f := 102) rfl ?_); refine goesL_ (some 29) rfl rfl Tryz.func102 (by kernel_rfl) rfl #[.int .i64 a0_1] rfl Gv.lm ?_; (with_reducible refine (impl_isLong.calls a0_1 true _ A16.out).mono ?_); rintro e w' ⟨rfl, ⟨nd, rfl⟩⟩; refine ⟨_, rfl, ?_⟩) | (go_at_call 102; (with_reducible refine (impl_isLong.calls a0_2 true _ A18.out).mono ?_); rintro e w' ⟨rfl, ⟨nd, rfl⟩⟩) | (go_at_call 102; (with_reducible refine (impl_isLong.calls a0_3 true _ A20.out).mono ?_); rintro e w' ⟨rfl, ⟨nd, rfl⟩⟩) | (go_at_call 102; (with_reducible refine (impl_isLong.calls a0_4 t9 _ A22.out).mono ?_); rintro e w' ⟨rfl, ⟨nd, rfl⟩⟩))
   go_ret
   exact ⟨Gv.rt, Gv.bw⟩
  ·replace c21 := Bool.eq_false_iff.mpr c21; subst c21; rw [if_neg (show ¬ (false = true) by decide)] at H
   (try dsimp only at H); obtain rfl := Option.some.inj H
   go_enter Tryz.func87, Tryz.ntmps87
   go_wp2_with (first | ((with_reducible refine gate_dst (N := 1) rfl ?_); refine Gv.bev 1 23 #[.int .i64 a0_0, .int .i64 a0_1, .int .i64 a0_2, .int .i64 a0_3, .int .i64 a0_4] ?_; intro gb0 hg w25 hbox hb; have BK0 := Gv.a0 (hbox); have GW0 := Gv.a0 ((Gv.ble hg Gv.bw : w.heap.size ≤ gb0)); have GE0 := GW0; replace HB := Gv.hb hb; clear hb hbox hg; obtain ⟨z26_0, z26_1, z26_2, z26_3, z26_4⟩ := Gv.c5 BK0.out; obtain ⟨o26_0, o26_1, o26_2, o26_3, o26_4⟩ := Gv.f5 BK0.out) | ((with_reducible refine gate_callee (f := 102) rfl ?_); refine goesL_ (some 29) rfl rfl Tryz.func102 (by kernel_rfl) rfl #[.int .i64 a0_1] rfl Gv.lm ?_; (with_reducible refine (impl_isLong.calls a0_1 true _ A16.out).mono ?_); rintro e w' ⟨rfl, ⟨nd, rfl⟩⟩; refine ⟨_, rfl, ?_⟩) | (go_at_call 102; (with_reducible refine (impl_isLong.calls a0_2 true _ A18.out).mono ?_); rintro e w' ⟨rfl, ⟨nd, rfl⟩⟩) | (go_at_call 102; (with_reducible refine (impl_isLong.calls a0_3 false _ A20.out).mono ?_); rintro e w' ⟨rfl, ⟨nd, rfl⟩⟩))
   go_ret
   exact ⟨Gv.rt, Gv.bw⟩
/-! ### impl_Put32: function 100 -/
def impl_Put32.f (k : Nat) (a0 : Int) : Option (List Int) := (impl_put.f k a0 4).bind fun t363 => (some t363)
set_option maxHeartbeats 8000000 in
set_option maxRecDepth 100000 in
theorem impl_Put32.calls (k : Nat) (a0 : Int) (r : List Int) (w : World) (h : impl_Put32.f k a0 = some r) :
  Calls Tryz.prog 100 #[.int .i64 a0] w fun e w' => ∃ v0_ : Value, e = .returned (v0_) ∧ Kd.R (Kd.int .u8) 5 w' w.heap.size (fun _ => True) v0_ r ∧ Below w.heap.size w w' := by
 have HB := Gv.a0 (Below.refl w.heap.size w); unfold impl_Put32.f at h; have H := h; clear h; replace H := Option.bind_eq_some_iff.mp H; obtain ⟨t0, A20, H⟩ := H
 (try dsimp only at H); have A2 := Gv.a0 A20; clear A20; obtain rfl := Option.some.inj H
 go_enter Tryz.func100, Tryz.ntmps100
 go_wp2_with (first | ((with_reducible refine gate_callee (f := 83) rfl ?_); refine goesL_ (some 4) rfl rfl Tryz.func83 (by kernel_rfl) rfl #[.int .i64 a0, .int .i64 4] rfl Gv.lm ?_; (with_reducible refine (impl_put.calls k a0 4 t0 _ A2.out).mono ?_); rintro e w3 ⟨v2, rfl, ho0, hb⟩; refine ⟨_, rfl, ?_⟩; have HO1 := Gv.a0 (Kd.R_lower ho0 (below_size Gv.bw)); replace HB := Gv.hb hb; clear hb ho0))
 go_ret
 exact ⟨_, Gv.rt, Gv.kr HO1.out, Gv.bw⟩

/-! ### slices_Grow_byte_byte: function 112 -/
def slices_Grow_byte_byte.f (a0 : Int) : Option (List Int) := if 0 ≤ a0 ∧ a0 ≤ 1099511627776 then some ([] : List Int) else none
set_option maxHeartbeats 8000000 in
set_option maxRecDepth 100000 in
theorem slices_Grow_byte_byte.calls (a0 : Int) (r : List Int) (w : World) (h : slices_Grow_byte_byte.f a0 = some r) :
  Calls Tryz.prog 112 #[.slice none 0 0, .int .i64 a0] w fun e w' => ∃ v0_ : Value, e = .returned (v0_) ∧ Kd.R (Kd.int .u8) 5 w' w.heap.size (fun _ => True) v0_ r ∧ Below w.heap.size w w' := by
 unfold slices_Grow_byte_byte.f at h
 by_cases hn : 0 ≤ a0 ∧ a0 ≤ 1099511627776
 rotate_left
 ·rw [if_neg hn] at h; cases h
 rw [if_pos hn] at h; obtain rfl := Option.some.inj h; clear h
 by_cases h0 : a0 = 0
 ·subst h0
  go_enter Tryz.func112, Tryz.ntmps112
  go_wp2
  go_ret
  exact ⟨_, rfl, Kd.R_nil _ _ _ _ _, Below.refl _ w⟩
 obtain ⟨n, rfl⟩ : ∃ n : Nat, a0 = n := ⟨a0.toNat, by omega⟩
 have hi := info5; rw [Option.map_eq_some_iff] at hi; obtain ⟨i, hi, hz⟩ := hi; simp only [Prod.mk.injEq] at hz; obtain ⟨hz, hs, hb⟩ := hz; have hrz : ∀ ty, (Builtin.append_ #[62, 3] ty #[.slice none 0 0, .int .i64 (n : Int)]).run Tryz.prog w = _ := fun ty =>
  Lib.run_append_nil_zeros w 62 3 ty 5 i (.int .u8 0) .i64 .i64 Tryz.underlying62 Tryz.underlying3 hi hz n (by omega) (by omega) (by omega) (by rw [hb]; omega)
 have hG1 : n ≤ grownCap w n 0 5 := grownCap_ge w _ _ _; have hG2 : grownCap w n 0 5 ≤ maxLen := grownCap_le_maxLen w n 0 5 (by unfold maxLen; omega); obtain ⟨G, hG⟩ : ∃ G, G = grownCap w n 0 5 := ⟨_, rfl⟩
 rw [← hG] at hrz hG1 hG2; have h1 : ¬ ((n : Int) < 0) := by omega
 have h2 : wrap64 ((0 : Int) - 0) = 0 := by unfold wrap64; omega
 have h3 : wrap64 ((n : Int) - 0) = n := by unfold wrap64; omega
 have h4 : (n : Int) > 0 := by omega
 have hG63 : G ≤ 9223372036854775807 := by unfold maxLen at hG2; omega
 have hsz : (Builtin.zeroCells (Value.int .u8 0).cells n ++ Builtin.zeroCells (Value.int .u8 0).cells (G - n)).size = G * 1 := by
  rw [Array.size_append, size_zeroCells, size_zeroCells, show (Value.int .u8 0).cells.size = 1 from rfl]
  omega
 clear hG hz hs hb hi
 go_enter Tryz.func112, Tryz.ntmps112
 go_wp2_with (at_builtin; refine Lib.wpList_append_run _ rfl _ _ _ _ rfl _ _ rfl rfl _ _ (hrz _) ?_)
 go_ret
 refine ⟨_, rfl, ⟨fun _ _ => trivial, [], ⟨by simp, .inr ⟨w.heap.size, G, _, rfl, Nat.le_refl _, heap_alloc_new _ _, Nat.zero_le _, hG2, hsz, by simp⟩⟩, Reps.none _ _⟩, (below_alloc (below_drew1 (Below.refl _ w)) _)⟩

end Go.Proofs.YtbihbbkdciebhaaGreatDoor.PRr
