/- Plain Lean functions of a law's Go functions, their contracts, by a program of this session (wip/pr.py over the kit's print). -/
import Derived.Test.YtbihbbkdciebhaaDoorPRtx0
import Derived.Test.YtbihbbkdciebhaaDoorPRtx5
import Derived.Test.YtbihbbkdciebhaaDoorPRtx7
namespace Go.Proofs.YtbihbbkdciebhaaDoor.PRt
open Go.RowKit Go.Proofs.YtbihbbkdciebhaaDoorW.PrintWords Go.Proofs.YtbihbbkdciebhaaDoorW.PrintLast Go.Proofs.YtbihbbkdciebhaaDoorW.PrintMore
attribute [local go_sem] max2_int min2_int max_two min_two max_three min_three max_four min_four   -- for this text's walks alone
set_option linter.unusedVariables false
set_option linter.unusedSimpArgs false

/-! ### impl_RuleText: function 6 -/
def impl_RuleText.f (k : Nat) (a0_0 : Int) (a0_1 : Int) (a0_2 : Int) (a0_3 : Int) (a0_4 : Int) (a0_5 : Int) (a0_6 : Int) (a0_7 : Int) (a0_8 : Int) (a0_9 : Int) (a0_10 : Int) (a0_11 : Int) (a0_12 : Int) (a0_13 : Int) (a0_14 : Int) (a0_15 : Int) (a0_16 : Int) (a0_17 : Int) (a0_18 : Int) (a0_19 : Int) (a0_20 : Int) : Option (ByteArray) := (impl_RuleOk.f k a0_0 a0_1 a0_2 a0_3 a0_4 a0_5 a0_6 a0_7 a0_8 a0_9 a0_10 a0_11 a0_12 a0_13 a0_14 a0_15 a0_16 a0_17 a0_18 a0_19 a0_20).bind fun t410 => (if t410 = true then ((impl_NumText.f a0_0).bind fun t411 => ((impl_PrefixText.f k a0_1 a0_2 a0_3 a0_4 a0_5 a0_6).bind fun t412 => ((impl_PrefixText.f k a0_7 a0_8 a0_9 a0_10 a0_11 a0_12).bind fun t413 => ((impl_protoText.f a0_13).bind fun t414 => ((impl_NumText.f a0_14).bind fun t415 => (if t415.size + 1 ≤ 9223372036854775807 then ((impl_NumText.f a0_15).bind fun t416 => (if (t415 ++ (⟨#[45]⟩ : ByteArray)).size + t416.size ≤ 9223372036854775807 then ((impl_NumText.f a0_16).bind fun t417 => (if t417.size + 1 ≤ 9223372036854775807 then ((impl_NumText.f a0_17).bind fun t418 => (if (t417 ++ (⟨#[45]⟩ : ByteArray)).size + t418.size ≤ 9223372036854775807 then ((impl_NumText.f a0_18).bind fun t419 => ((impl_NumText.f a0_19).bind fun t420 => ((impl_NumText.f a0_20).bind fun t421 => ((strings_Join.f (([t411, (⟨#[102, 114, 111, 109]⟩ : ByteArray), t412, (⟨#[116, 111]⟩ : ByteArray), t413, (⟨#[112, 114, 111, 116, 111]⟩ : ByteArray), t414, (⟨#[115, 112, 111, 114, 116]⟩ : ByteArray), (t415 ++ (⟨#[45]⟩ : ByteArray)) ++ t416, (⟨#[100, 112, 111, 114, 116]⟩ : ByteArray), (t417 ++ (⟨#[45]⟩ : ByteArray)) ++ t418, (⟨#[116, 101, 110, 97, 110, 116]⟩ : ByteArray), t419, (⟨#[119, 101, 105, 103, 104, 116]⟩ : ByteArray), t420, (⟨#[99, 104, 97, 105, 110]⟩ : ByteArray), t421] : List ByteArray)) (⟨#[32]⟩ : ByteArray)).bind fun t425 => (some t425))))) else (none))) else (none))) else (none))) else (none))))))) else (some (⟨#[]⟩ : ByteArray)))
theorem impl_RuleText.mono : ∀ a0 a1 a2 a3 a4 a5 a6 a7 a8 a9 a10 a11 a12 a13 a14 a15 a16 a17 a18 a19 a20 k, LeO (impl_RuleText.f k a0 a1 a2 a3 a4 a5 a6 a7 a8 a9 a10 a11 a12 a13 a14 a15 a16 a17 a18 a19 a20) (impl_RuleText.f (k + 1) a0 a1 a2 a3 a4 a5 a6 a7 a8 a9 a10 a11 a12 a13 a14 a15 a16 a17 a18 a19 a20) := by
 intro a0 a1 a2 a3 a4 a5 a6 a7 a8 a9 a10 a11 a12 a13 a14 a15 a16 a17 a18 a19 a20 k
 unfold impl_RuleText.f
 repeat' first
   | (with_reducible exact impl_PrefixText.mono _ _ _ _ _ _ _)
   | (with_reducible exact impl_RuleOk.mono _ _ _ _ _ _ _ _ _ _ _ _ _ _ _ _ _ _ _ _ _ _)
   | (with_reducible exact LeO.refl _)
   | (with_reducible exact LeO.none _)
   | (with_reducible refine LeO.ite ?_ ?_)
   | (with_reducible refine LeO.bind ?_ (fun _ => ?_))
   | exact impl_PrefixText.mono _ _ _ _ _ _ _
   | exact impl_RuleOk.mono _ _ _ _ _ _ _ _ _ _ _ _ _ _ _ _ _ _ _ _ _ _
   | exact LeO.none _
   | refine LeO.ite ?_ ?_
   | refine LeO.bind ?_ (fun _ => ?_)
def impl_RuleText.T3 : Bool × List (List Nat × List Nat) := (true, [([], []), ([0], [0]), ([1], [1]), ([], []), ([3], [3]), ([4, 2], [4]), ([], []), ([6], [6]), ([7, 5], [7]), ([], []), ([9], [9]), ([10, 8], [10]), ([], []), ([12], [12]), ([13, 11], [13]), ([14], [14]), ([], []), ([16], [16]), ([17, 14], [17]), ([15, 18], [15, 18]), ([], []), ([20], [20]), ([21, 18], [21]), ([22], [22]), ([], []), ([24], [24]), ([25, 22], [25]), ([23, 26], [23, 26]), ([], []), ([28], [28]), ([29, 26], [29]), ([], []), ([31], [31]), ([32, 30], [32]), ([], []), ([34], [34]), ([35, 33], [35]), ([2, 5, 8, 11, 19, 27, 30, 33, 36], [2, 5, 8, 11, 19, 27, 30, 33, 36]), ([37, 36], [37]), ([38, 38, 0, 1, 2, 3, 4, 5, 6, 7, 8, 9, 10, 11, 12, 13, 14, 15, 16, 17, 18, 19, 20, 21, 22, 23, 24, 25, 26, 27, 28, 29, 30, 31, 32, 33, 34, 35, 36, 37, 38], [38])])
def impl_RuleText.B3 : List Nat := [0, 1, 3, 0, 8, 31, 0, 64, 255, 0, 512, 2047, 0, 4096, 16383, 32767, 0, 65536, 229375, 524287, 0, 1048576, 3637247, 7831551, 0, 16777216, 58163199, 133660671, 0, 268435456, 930578431, 0, 2147483648, 8446771199, 0, 17179869184, 68576313343, 137438953471, 274877906943, 549755813887]
theorem impl_RuleText.tab3 : rtab .any (opsOf Tryd.f6 3) = impl_RuleText.T3 := by kernel_rfl
theorem impl_RuleText.bits3 : waitsOk impl_RuleText.T3.2 impl_RuleText.B3 = true := by kernel_rfl
set_option maxHeartbeats 8000000 in
set_option maxRecDepth 100000 in
theorem impl_RuleText.calls (k : Nat) (a0_0 : Int) (a0_1 : Int) (a0_2 : Int) (a0_3 : Int) (a0_4 : Int) (a0_5 : Int) (a0_6 : Int) (a0_7 : Int) (a0_8 : Int) (a0_9 : Int) (a0_10 : Int) (a0_11 : Int) (a0_12 : Int) (a0_13 : Int) (a0_14 : Int) (a0_15 : Int) (a0_16 : Int) (a0_17 : Int) (a0_18 : Int) (a0_19 : Int) (a0_20 : Int) (r : ByteArray) (w : World) (hE : La.Env w) (h : impl_RuleText.f k a0_0 a0_1 a0_2 a0_3 a0_4 a0_5 a0_6 a0_7 a0_8 a0_9 a0_10 a0_11 a0_12 a0_13 a0_14 a0_15 a0_16 a0_17 a0_18 a0_19 a0_20 = some r) :
  Calls Tryd.prog 6 #[.agg #[.int .i64 a0_0, .int .i64 a0_1, .int .i64 a0_2, .int .i64 a0_3, .int .i64 a0_4, .int .i64 a0_5, .int .i64 a0_6, .int .i64 a0_7, .int .i64 a0_8, .int .i64 a0_9, .int .i64 a0_10, .int .i64 a0_11, .int .i64 a0_12, .int .i64 a0_13, .int .i64 a0_14, .int .i64 a0_15, .int .i64 a0_16, .int .i64 a0_17, .int .i64 a0_18, .int .i64 a0_19, .int .i64 a0_20]] w fun e w' => e = .returned (.string r) ∧ Below w.heap.size w w' := by
 have hu33 := Tryd.underlying33
 have hu31 := Tryd.underlying31
 replace hE := Aside0.mk hE
 have HB := Gv.a0 (Below.refl w.heap.size w)
 have H : ((impl_RuleOk.f k a0_0 a0_1 a0_2 a0_3 a0_4 a0_5 a0_6 a0_7 a0_8 a0_9 a0_10 a0_11 a0_12 a0_13 a0_14 a0_15 a0_16 a0_17 a0_18 a0_19 a0_20).bind fun t410 => (if t410 = true then ((impl_NumText.f a0_0).bind fun t411 => ((impl_PrefixText.f k a0_1 a0_2 a0_3 a0_4 a0_5 a0_6).bind fun t412 => ((impl_PrefixText.f k a0_7 a0_8 a0_9 a0_10 a0_11 a0_12).bind fun t413 => ((impl_protoText.f a0_13).bind fun t414 => ((impl_NumText.f a0_14).bind fun t415 => (if t415.size + 1 ≤ 9223372036854775807 then ((impl_NumText.f a0_15).bind fun t416 => (if (t415 ++ (⟨#[45]⟩ : ByteArray)).size + t416.size ≤ 9223372036854775807 then ((impl_NumText.f a0_16).bind fun t417 => (if t417.size + 1 ≤ 9223372036854775807 then ((impl_NumText.f a0_17).bind fun t418 => (if (t417 ++ (⟨#[45]⟩ : ByteArray)).size + t418.size ≤ 9223372036854775807 then ((impl_NumText.f a0_18).bind fun t419 => ((impl_NumText.f a0_19).bind fun t420 => ((impl_NumText.f a0_20).bind fun t421 => ((strings_Join.f (([t411, (⟨#[102, 114, 111, 109]⟩ : ByteArray), t412, (⟨#[116, 111]⟩ : ByteArray), t413, (⟨#[112, 114, 111, 116, 111]⟩ : ByteArray), t414, (⟨#[115, 112, 111, 114, 116]⟩ : ByteArray), (t415 ++ (⟨#[45]⟩ : ByteArray)) ++ t416, (⟨#[100, 112, 111, 114, 116]⟩ : ByteArray), (t417 ++ (⟨#[45]⟩ : ByteArray)) ++ t418, (⟨#[116, 101, 110, 97, 110, 116]⟩ : ByteArray), t419, (⟨#[119, 101, 105, 103, 104, 116]⟩ : ByteArray), t420, (⟨#[99, 104, 97, 105, 110]⟩ : ByteArray), t421] : List ByteArray)) (⟨#[32]⟩ : ByteArray)).bind fun t425 => (some t425))))) else (none))) else (none))) else (none))) else (none))))))) else (some (⟨#[]⟩ : ByteArray)))) = some r := h
 clear h
 replace H := Option.bind_eq_some_iff.mp H
 obtain ⟨t410, A20, H⟩ := H
 replace H : (if t410 = true then ((impl_NumText.f a0_0).bind fun t411 => ((impl_PrefixText.f k a0_1 a0_2 a0_3 a0_4 a0_5 a0_6).bind fun t412 => ((impl_PrefixText.f k a0_7 a0_8 a0_9 a0_10 a0_11 a0_12).bind fun t413 => ((impl_protoText.f a0_13).bind fun t414 => ((impl_NumText.f a0_14).bind fun t415 => (if t415.size + 1 ≤ 9223372036854775807 then ((impl_NumText.f a0_15).bind fun t416 => (if (t415 ++ (⟨#[45]⟩ : ByteArray)).size + t416.size ≤ 9223372036854775807 then ((impl_NumText.f a0_16).bind fun t417 => (if t417.size + 1 ≤ 9223372036854775807 then ((impl_NumText.f a0_17).bind fun t418 => (if (t417 ++ (⟨#[45]⟩ : ByteArray)).size + t418.size ≤ 9223372036854775807 then ((impl_NumText.f a0_18).bind fun t419 => ((impl_NumText.f a0_19).bind fun t420 => ((impl_NumText.f a0_20).bind fun t421 => ((strings_Join.f (([t411, (⟨#[102, 114, 111, 109]⟩ : ByteArray), t412, (⟨#[116, 111]⟩ : ByteArray), t413, (⟨#[112, 114, 111, 116, 111]⟩ : ByteArray), t414, (⟨#[115, 112, 111, 114, 116]⟩ : ByteArray), (t415 ++ (⟨#[45]⟩ : ByteArray)) ++ t416, (⟨#[100, 112, 111, 114, 116]⟩ : ByteArray), (t417 ++ (⟨#[45]⟩ : ByteArray)) ++ t418, (⟨#[116, 101, 110, 97, 110, 116]⟩ : ByteArray), t419, (⟨#[119, 101, 105, 103, 104, 116]⟩ : ByteArray), t420, (⟨#[99, 104, 97, 105, 110]⟩ : ByteArray), t421] : List ByteArray)) (⟨#[32]⟩ : ByteArray)).bind fun t425 => (some t425))))) else (none))) else (none))) else (none))) else (none))))))) else (some (⟨#[]⟩ : ByteArray))) = some r := H
 have A2 := Gv.a0 A20
 clear A20
 by_cases c3 : t410 = true
 ·subst c3
  have H1 : ((impl_NumText.f a0_0).bind fun t411 => ((impl_PrefixText.f k a0_1 a0_2 a0_3 a0_4 a0_5 a0_6).bind fun t412 => ((impl_PrefixText.f k a0_7 a0_8 a0_9 a0_10 a0_11 a0_12).bind fun t413 => ((impl_protoText.f a0_13).bind fun t414 => ((impl_NumText.f a0_14).bind fun t415 => (if t415.size + 1 ≤ 9223372036854775807 then ((impl_NumText.f a0_15).bind fun t416 => (if (t415 ++ (⟨#[45]⟩ : ByteArray)).size + t416.size ≤ 9223372036854775807 then ((impl_NumText.f a0_16).bind fun t417 => (if t417.size + 1 ≤ 9223372036854775807 then ((impl_NumText.f a0_17).bind fun t418 => (if (t417 ++ (⟨#[45]⟩ : ByteArray)).size + t418.size ≤ 9223372036854775807 then ((impl_NumText.f a0_18).bind fun t419 => ((impl_NumText.f a0_19).bind fun t420 => ((impl_NumText.f a0_20).bind fun t421 => ((strings_Join.f (([t411, (⟨#[102, 114, 111, 109]⟩ : ByteArray), t412, (⟨#[116, 111]⟩ : ByteArray), t413, (⟨#[112, 114, 111, 116, 111]⟩ : ByteArray), t414, (⟨#[115, 112, 111, 114, 116]⟩ : ByteArray), (t415 ++ (⟨#[45]⟩ : ByteArray)) ++ t416, (⟨#[100, 112, 111, 114, 116]⟩ : ByteArray), (t417 ++ (⟨#[45]⟩ : ByteArray)) ++ t418, (⟨#[116, 101, 110, 97, 110, 116]⟩ : ByteArray), t419, (⟨#[119, 101, 105, 103, 104, 116]⟩ : ByteArray), t420, (⟨#[99, 104, 97, 105, 110]⟩ : ByteArray), t421] : List ByteArray)) (⟨#[32]⟩ : ByteArray)).bind fun t425 => (some t425))))) else (none))) else (none))) else (none))) else (none))))))) = some r := by rw [if_pos rfl] at H; exact H
  clear H
  have H := H1
  clear H1
  replace H := Option.bind_eq_some_iff.mp H
  obtain ⟨t411, A40, H⟩ := H
  replace H : ((impl_PrefixText.f k a0_1 a0_2 a0_3 a0_4 a0_5 a0_6).bind fun t412 => ((impl_PrefixText.f k a0_7 a0_8 a0_9 a0_10 a0_11 a0_12).bind fun t413 => ((impl_protoText.f a0_13).bind fun t414 => ((impl_NumText.f a0_14).bind fun t415 => (if t415.size + 1 ≤ 9223372036854775807 then ((impl_NumText.f a0_15).bind fun t416 => (if (t415 ++ (⟨#[45]⟩ : ByteArray)).size + t416.size ≤ 9223372036854775807 then ((impl_NumText.f a0_16).bind fun t417 => (if t417.size + 1 ≤ 9223372036854775807 then ((impl_NumText.f a0_17).bind fun t418 => (if (t417 ++ (⟨#[45]⟩ : ByteArray)).size + t418.size ≤ 9223372036854775807 then ((impl_NumText.f a0_18).bind fun t419 => ((impl_NumText.f a0_19).bind fun t420 => ((impl_NumText.f a0_20).bind fun t421 => ((strings_Join.f (([t411, (⟨#[102, 114, 111, 109]⟩ : ByteArray), t412, (⟨#[116, 111]⟩ : ByteArray), t413, (⟨#[112, 114, 111, 116, 111]⟩ : ByteArray), t414, (⟨#[115, 112, 111, 114, 116]⟩ : ByteArray), (t415 ++ (⟨#[45]⟩ : ByteArray)) ++ t416, (⟨#[100, 112, 111, 114, 116]⟩ : ByteArray), (t417 ++ (⟨#[45]⟩ : ByteArray)) ++ t418, (⟨#[116, 101, 110, 97, 110, 116]⟩ : ByteArray), t419, (⟨#[119, 101, 105, 103, 104, 116]⟩ : ByteArray), t420, (⟨#[99, 104, 97, 105, 110]⟩ : ByteArray), t421] : List ByteArray)) (⟨#[32]⟩ : ByteArray)).bind fun t425 => (some t425))))) else (none))) else (none))) else (none))) else (none)))))) = some r := H
  have A4 := Gv.a0 A40
  clear A40
  replace H := Option.bind_eq_some_iff.mp H
  obtain ⟨t412, A50, H⟩ := H
  replace H : ((impl_PrefixText.f k a0_7 a0_8 a0_9 a0_10 a0_11 a0_12).bind fun t413 => ((impl_protoText.f a0_13).bind fun t414 => ((impl_NumText.f a0_14).bind fun t415 => (if t415.size + 1 ≤ 9223372036854775807 then ((impl_NumText.f a0_15).bind fun t416 => (if (t415 ++ (⟨#[45]⟩ : ByteArray)).size + t416.size ≤ 9223372036854775807 then ((impl_NumText.f a0_16).bind fun t417 => (if t417.size + 1 ≤ 9223372036854775807 then ((impl_NumText.f a0_17).bind fun t418 => (if (t417 ++ (⟨#[45]⟩ : ByteArray)).size + t418.size ≤ 9223372036854775807 then ((impl_NumText.f a0_18).bind fun t419 => ((impl_NumText.f a0_19).bind fun t420 => ((impl_NumText.f a0_20).bind fun t421 => ((strings_Join.f (([t411, (⟨#[102, 114, 111, 109]⟩ : ByteArray), t412, (⟨#[116, 111]⟩ : ByteArray), t413, (⟨#[112, 114, 111, 116, 111]⟩ : ByteArray), t414, (⟨#[115, 112, 111, 114, 116]⟩ : ByteArray), (t415 ++ (⟨#[45]⟩ : ByteArray)) ++ t416, (⟨#[100, 112, 111, 114, 116]⟩ : ByteArray), (t417 ++ (⟨#[45]⟩ : ByteArray)) ++ t418, (⟨#[116, 101, 110, 97, 110, 116]⟩ : ByteArray), t419, (⟨#[119, 101, 105, 103, 104, 116]⟩ : ByteArray), t420, (⟨#[99, 104, 97, 105, 110]⟩ : ByteArray), t421] : List ByteArray)) (⟨#[32]⟩ : ByteArray)).bind fun t425 => (some t425))))) else (none))) else (none))) else (none))) else (none))))) = some r := H
  have A5 := Gv.a0 A50
  clear A50
  replace H := Option.bind_eq_some_iff.mp H
  obtain ⟨t413, A60, H⟩ := H
  replace H : ((impl_protoText.f a0_13).bind fun t414 => ((impl_NumText.f a0_14).bind fun t415 => (if t415.size + 1 ≤ 9223372036854775807 then ((impl_NumText.f a0_15).bind fun t416 => (if (t415 ++ (⟨#[45]⟩ : ByteArray)).size + t416.size ≤ 9223372036854775807 then ((impl_NumText.f a0_16).bind fun t417 => (if t417.size + 1 ≤ 9223372036854775807 then ((impl_NumText.f a0_17).bind fun t418 => (if (t417 ++ (⟨#[45]⟩ : ByteArray)).size + t418.size ≤ 9223372036854775807 then ((impl_NumText.f a0_18).bind fun t419 => ((impl_NumText.f a0_19).bind fun t420 => ((impl_NumText.f a0_20).bind fun t421 => ((strings_Join.f (([t411, (⟨#[102, 114, 111, 109]⟩ : ByteArray), t412, (⟨#[116, 111]⟩ : ByteArray), t413, (⟨#[112, 114, 111, 116, 111]⟩ : ByteArray), t414, (⟨#[115, 112, 111, 114, 116]⟩ : ByteArray), (t415 ++ (⟨#[45]⟩ : ByteArray)) ++ t416, (⟨#[100, 112, 111, 114, 116]⟩ : ByteArray), (t417 ++ (⟨#[45]⟩ : ByteArray)) ++ t418, (⟨#[116, 101, 110, 97, 110, 116]⟩ : ByteArray), t419, (⟨#[119, 101, 105, 103, 104, 116]⟩ : ByteArray), t420, (⟨#[99, 104, 97, 105, 110]⟩ : ByteArray), t421] : List ByteArray)) (⟨#[32]⟩ : ByteArray)).bind fun t425 => (some t425))))) else (none))) else (none))) else (none))) else (none)))) = some r := H
  have A6 := Gv.a0 A60
  clear A60
  replace H := Option.bind_eq_some_iff.mp H
  obtain ⟨t414, A70, H⟩ := H
  replace H : ((impl_NumText.f a0_14).bind fun t415 => (if t415.size + 1 ≤ 9223372036854775807 then ((impl_NumText.f a0_15).bind fun t416 => (if (t415 ++ (⟨#[45]⟩ : ByteArray)).size + t416.size ≤ 9223372036854775807 then ((impl_NumText.f a0_16).bind fun t417 => (if t417.size + 1 ≤ 9223372036854775807 then ((impl_NumText.f a0_17).bind fun t418 => (if (t417 ++ (⟨#[45]⟩ : ByteArray)).size + t418.size ≤ 9223372036854775807 then ((impl_NumText.f a0_18).bind fun t419 => ((impl_NumText.f a0_19).bind fun t420 => ((impl_NumText.f a0_20).bind fun t421 => ((strings_Join.f (([t411, (⟨#[102, 114, 111, 109]⟩ : ByteArray), t412, (⟨#[116, 111]⟩ : ByteArray), t413, (⟨#[112, 114, 111, 116, 111]⟩ : ByteArray), t414, (⟨#[115, 112, 111, 114, 116]⟩ : ByteArray), (t415 ++ (⟨#[45]⟩ : ByteArray)) ++ t416, (⟨#[100, 112, 111, 114, 116]⟩ : ByteArray), (t417 ++ (⟨#[45]⟩ : ByteArray)) ++ t418, (⟨#[116, 101, 110, 97, 110, 116]⟩ : ByteArray), t419, (⟨#[119, 101, 105, 103, 104, 116]⟩ : ByteArray), t420, (⟨#[99, 104, 97, 105, 110]⟩ : ByteArray), t421] : List ByteArray)) (⟨#[32]⟩ : ByteArray)).bind fun t425 => (some t425))))) else (none))) else (none))) else (none))) else (none))) = some r := H
  have A7 := Gv.a0 A70
  clear A70
  replace H := Option.bind_eq_some_iff.mp H
  obtain ⟨t415, A80, H⟩ := H
  replace H : (if t415.size + 1 ≤ 9223372036854775807 then ((impl_NumText.f a0_15).bind fun t416 => (if (t415 ++ (⟨#[45]⟩ : ByteArray)).size + t416.size ≤ 9223372036854775807 then ((impl_NumText.f a0_16).bind fun t417 => (if t417.size + 1 ≤ 9223372036854775807 then ((impl_NumText.f a0_17).bind fun t418 => (if (t417 ++ (⟨#[45]⟩ : ByteArray)).size + t418.size ≤ 9223372036854775807 then ((impl_NumText.f a0_18).bind fun t419 => ((impl_NumText.f a0_19).bind fun t420 => ((impl_NumText.f a0_20).bind fun t421 => ((strings_Join.f (([t411, (⟨#[102, 114, 111, 109]⟩ : ByteArray), t412, (⟨#[116, 111]⟩ : ByteArray), t413, (⟨#[112, 114, 111, 116, 111]⟩ : ByteArray), t414, (⟨#[115, 112, 111, 114, 116]⟩ : ByteArray), (t415 ++ (⟨#[45]⟩ : ByteArray)) ++ t416, (⟨#[100, 112, 111, 114, 116]⟩ : ByteArray), (t417 ++ (⟨#[45]⟩ : ByteArray)) ++ t418, (⟨#[116, 101, 110, 97, 110, 116]⟩ : ByteArray), t419, (⟨#[119, 101, 105, 103, 104, 116]⟩ : ByteArray), t420, (⟨#[99, 104, 97, 105, 110]⟩ : ByteArray), t421] : List ByteArray)) (⟨#[32]⟩ : ByteArray)).bind fun t425 => (some t425))))) else (none))) else (none))) else (none))) else (none)) = some r := H
  have A8 := Gv.a0 A80
  clear A80
  by_cases c9 : t415.size + 1 ≤ 9223372036854775807
  ·rw [if_pos c9] at H
   have c9b0 := eq_true c9
   have c9b1 : decide (t415.size + 1 ≤ 9223372036854775807) = true := decide_eq_true c9
   try have c9b2 : (9223372036854775807 < t415.size + 1) = False := eq_false (Nat.not_lt.2 c9)
   replace H := Option.bind_eq_some_iff.mp H
   obtain ⟨t416, A100, H⟩ := H
   replace H : (if (t415 ++ (⟨#[45]⟩ : ByteArray)).size + t416.size ≤ 9223372036854775807 then ((impl_NumText.f a0_16).bind fun t417 => (if t417.size + 1 ≤ 9223372036854775807 then ((impl_NumText.f a0_17).bind fun t418 => (if (t417 ++ (⟨#[45]⟩ : ByteArray)).size + t418.size ≤ 9223372036854775807 then ((impl_NumText.f a0_18).bind fun t419 => ((impl_NumText.f a0_19).bind fun t420 => ((impl_NumText.f a0_20).bind fun t421 => ((strings_Join.f (([t411, (⟨#[102, 114, 111, 109]⟩ : ByteArray), t412, (⟨#[116, 111]⟩ : ByteArray), t413, (⟨#[112, 114, 111, 116, 111]⟩ : ByteArray), t414, (⟨#[115, 112, 111, 114, 116]⟩ : ByteArray), (t415 ++ (⟨#[45]⟩ : ByteArray)) ++ t416, (⟨#[100, 112, 111, 114, 116]⟩ : ByteArray), (t417 ++ (⟨#[45]⟩ : ByteArray)) ++ t418, (⟨#[116, 101, 110, 97, 110, 116]⟩ : ByteArray), t419, (⟨#[119, 101, 105, 103, 104, 116]⟩ : ByteArray), t420, (⟨#[99, 104, 97, 105, 110]⟩ : ByteArray), t421] : List ByteArray)) (⟨#[32]⟩ : ByteArray)).bind fun t425 => (some t425))))) else (none))) else (none))) else (none)) = some r := H
   have A10 := Gv.a0 A100
   clear A100
   by_cases c11 : (t415 ++ (⟨#[45]⟩ : ByteArray)).size + t416.size ≤ 9223372036854775807
   ·rw [if_pos c11] at H
    have c11b0 := eq_true c11
    have c11b1 : decide ((t415 ++ (⟨#[45]⟩ : ByteArray)).size + t416.size ≤ 9223372036854775807) = true := decide_eq_true c11
    have c11s : t415.size + 1 + t416.size ≤ 9223372036854775807 := (by have h_ := c11; simp only [ByteArray.size_append] at h_; exact h_)
    have c11b3 := eq_true c11s
    have c11b4 : decide (t415.size + 1 + t416.size ≤ 9223372036854775807) = true := decide_eq_true c11s
    have c11b5 : (9223372036854775807 < t415.size + 1 + t416.size) = False := eq_false (Nat.not_lt.2 c11s)
    clear c11s
    try have c11b2 : (9223372036854775807 < (t415 ++ (⟨#[45]⟩ : ByteArray)).size + t416.size) = False := eq_false (Nat.not_lt.2 c11)
    replace H := Option.bind_eq_some_iff.mp H
    obtain ⟨t417, A120, H⟩ := H
    replace H : (if t417.size + 1 ≤ 9223372036854775807 then ((impl_NumText.f a0_17).bind fun t418 => (if (t417 ++ (⟨#[45]⟩ : ByteArray)).size + t418.size ≤ 9223372036854775807 then ((impl_NumText.f a0_18).bind fun t419 => ((impl_NumText.f a0_19).bind fun t420 => ((impl_NumText.f a0_20).bind fun t421 => ((strings_Join.f (([t411, (⟨#[102, 114, 111, 109]⟩ : ByteArray), t412, (⟨#[116, 111]⟩ : ByteArray), t413, (⟨#[112, 114, 111, 116, 111]⟩ : ByteArray), t414, (⟨#[115, 112, 111, 114, 116]⟩ : ByteArray), (t415 ++ (⟨#[45]⟩ : ByteArray)) ++ t416, (⟨#[100, 112, 111, 114, 116]⟩ : ByteArray), (t417 ++ (⟨#[45]⟩ : ByteArray)) ++ t418, (⟨#[116, 101, 110, 97, 110, 116]⟩ : ByteArray), t419, (⟨#[119, 101, 105, 103, 104, 116]⟩ : ByteArray), t420, (⟨#[99, 104, 97, 105, 110]⟩ : ByteArray), t421] : List ByteArray)) (⟨#[32]⟩ : ByteArray)).bind fun t425 => (some t425))))) else (none))) else (none)) = some r := H
    have A12 := Gv.a0 A120
    clear A120
    by_cases c13 : t417.size + 1 ≤ 9223372036854775807
    ·rw [if_pos c13] at H
     have c13b0 := eq_true c13
     have c13b1 : decide (t417.size + 1 ≤ 9223372036854775807) = true := decide_eq_true c13
     try have c13b2 : (9223372036854775807 < t417.size + 1) = False := eq_false (Nat.not_lt.2 c13)
     replace H := Option.bind_eq_some_iff.mp H
     obtain ⟨t418, A140, H⟩ := H
     replace H : (if (t417 ++ (⟨#[45]⟩ : ByteArray)).size + t418.size ≤ 9223372036854775807 then ((impl_NumText.f a0_18).bind fun t419 => ((impl_NumText.f a0_19).bind fun t420 => ((impl_NumText.f a0_20).bind fun t421 => ((strings_Join.f (([t411, (⟨#[102, 114, 111, 109]⟩ : ByteArray), t412, (⟨#[116, 111]⟩ : ByteArray), t413, (⟨#[112, 114, 111, 116, 111]⟩ : ByteArray), t414, (⟨#[115, 112, 111, 114, 116]⟩ : ByteArray), (t415 ++ (⟨#[45]⟩ : ByteArray)) ++ t416, (⟨#[100, 112, 111, 114, 116]⟩ : ByteArray), (t417 ++ (⟨#[45]⟩ : ByteArray)) ++ t418, (⟨#[116, 101, 110, 97, 110, 116]⟩ : ByteArray), t419, (⟨#[119, 101, 105, 103, 104, 116]⟩ : ByteArray), t420, (⟨#[99, 104, 97, 105, 110]⟩ : ByteArray), t421] : List ByteArray)) (⟨#[32]⟩ : ByteArray)).bind fun t425 => (some t425))))) else (none)) = some r := H
     have A14 := Gv.a0 A140
     clear A140
     by_cases c15 : (t417 ++ (⟨#[45]⟩ : ByteArray)).size + t418.size ≤ 9223372036854775807
     ·rw [if_pos c15] at H
      have c15b0 := eq_true c15
      have c15b1 : decide ((t417 ++ (⟨#[45]⟩ : ByteArray)).size + t418.size ≤ 9223372036854775807) = true := decide_eq_true c15
      have c15s : t417.size + 1 + t418.size ≤ 9223372036854775807 := (by have h_ := c15; simp only [ByteArray.size_append] at h_; exact h_)
      have c15b3 := eq_true c15s
      have c15b4 : decide (t417.size + 1 + t418.size ≤ 9223372036854775807) = true := decide_eq_true c15s
      have c15b5 : (9223372036854775807 < t417.size + 1 + t418.size) = False := eq_false (Nat.not_lt.2 c15s)
      clear c15s
      try have c15b2 : (9223372036854775807 < (t417 ++ (⟨#[45]⟩ : ByteArray)).size + t418.size) = False := eq_false (Nat.not_lt.2 c15)
      replace H := Option.bind_eq_some_iff.mp H
      obtain ⟨t419, A160, H⟩ := H
      replace H : ((impl_NumText.f a0_19).bind fun t420 => ((impl_NumText.f a0_20).bind fun t421 => ((strings_Join.f (([t411, (⟨#[102, 114, 111, 109]⟩ : ByteArray), t412, (⟨#[116, 111]⟩ : ByteArray), t413, (⟨#[112, 114, 111, 116, 111]⟩ : ByteArray), t414, (⟨#[115, 112, 111, 114, 116]⟩ : ByteArray), (t415 ++ (⟨#[45]⟩ : ByteArray)) ++ t416, (⟨#[100, 112, 111, 114, 116]⟩ : ByteArray), (t417 ++ (⟨#[45]⟩ : ByteArray)) ++ t418, (⟨#[116, 101, 110, 97, 110, 116]⟩ : ByteArray), t419, (⟨#[119, 101, 105, 103, 104, 116]⟩ : ByteArray), t420, (⟨#[99, 104, 97, 105, 110]⟩ : ByteArray), t421] : List ByteArray)) (⟨#[32]⟩ : ByteArray)).bind fun t425 => (some t425)))) = some r := H
      have A16 := Gv.a0 A160
      clear A160
      replace H := Option.bind_eq_some_iff.mp H
      obtain ⟨t420, A170, H⟩ := H
      replace H : ((impl_NumText.f a0_20).bind fun t421 => ((strings_Join.f (([t411, (⟨#[102, 114, 111, 109]⟩ : ByteArray), t412, (⟨#[116, 111]⟩ : ByteArray), t413, (⟨#[112, 114, 111, 116, 111]⟩ : ByteArray), t414, (⟨#[115, 112, 111, 114, 116]⟩ : ByteArray), (t415 ++ (⟨#[45]⟩ : ByteArray)) ++ t416, (⟨#[100, 112, 111, 114, 116]⟩ : ByteArray), (t417 ++ (⟨#[45]⟩ : ByteArray)) ++ t418, (⟨#[116, 101, 110, 97, 110, 116]⟩ : ByteArray), t419, (⟨#[119, 101, 105, 103, 104, 116]⟩ : ByteArray), t420, (⟨#[99, 104, 97, 105, 110]⟩ : ByteArray), t421] : List ByteArray)) (⟨#[32]⟩ : ByteArray)).bind fun t425 => (some t425))) = some r := H
      have A17 := Gv.a0 A170
      clear A170
      replace H := Option.bind_eq_some_iff.mp H
      obtain ⟨t421, A180, H⟩ := H
      replace H : ((strings_Join.f (([t411, (⟨#[102, 114, 111, 109]⟩ : ByteArray), t412, (⟨#[116, 111]⟩ : ByteArray), t413, (⟨#[112, 114, 111, 116, 111]⟩ : ByteArray), t414, (⟨#[115, 112, 111, 114, 116]⟩ : ByteArray), (t415 ++ (⟨#[45]⟩ : ByteArray)) ++ t416, (⟨#[100, 112, 111, 114, 116]⟩ : ByteArray), (t417 ++ (⟨#[45]⟩ : ByteArray)) ++ t418, (⟨#[116, 101, 110, 97, 110, 116]⟩ : ByteArray), t419, (⟨#[119, 101, 105, 103, 104, 116]⟩ : ByteArray), t420, (⟨#[99, 104, 97, 105, 110]⟩ : ByteArray), t421] : List ByteArray)) (⟨#[32]⟩ : ByteArray)).bind fun t425 => (some t425)) = some r := H
      have A18 := Gv.a0 A180
      clear A180
      obtain ⟨y422, hy422⟩ : ∃ y_ : List ByteArray, y_ = (([t411, (⟨#[102, 114, 111, 109]⟩ : ByteArray), t412, (⟨#[116, 111]⟩ : ByteArray), t413, (⟨#[112, 114, 111, 116, 111]⟩ : ByteArray), t414, (⟨#[115, 112, 111, 114, 116]⟩ : ByteArray), (t415 ++ (⟨#[45]⟩ : ByteArray)) ++ t416, (⟨#[100, 112, 111, 114, 116]⟩ : ByteArray), (t417 ++ (⟨#[45]⟩ : ByteArray)) ++ t418, (⟨#[116, 101, 110, 97, 110, 116]⟩ : ByteArray), t419, (⟨#[119, 101, 105, 103, 104, 116]⟩ : ByteArray), t420, (⟨#[99, 104, 97, 105, 110]⟩ : ByteArray), t421] : List ByteArray)) := ⟨_, rfl⟩
      replace H : ((strings_Join.f y422 (⟨#[32]⟩ : ByteArray)).bind fun t425 => (some t425)) = some r := by first | (rw [hy422]; with_reducible exact H) | (have H2_ := (Option.bind_some _ _).symm.trans H; rw [hy422]; with_reducible exact H2_) | (have H2_ := (Option.bind_some _ _).symm.trans H; with_reducible exact H2_) | with_reducible exact H | (rw [hy422]; exact H) | exact H
      have Ny422 := Gv.a0 hy422
      clear hy422
      replace H := Option.bind_eq_some_iff.mp H
      obtain ⟨t425, A190, H⟩ := H
      replace H : (some t425) = some r := H
      have A19 := Gv.a0 A190
      clear A190
      obtain rfl := Option.some.inj H
      go_enter Tryd.func6, Tryd.ntmps6
      try go_wp2_with (first | ((with_reducible refine gate_dst (N := 1) rfl ?_); refine box_event ?hg (N := 1) ?hd (cs := #[.int .i64 a0_0, .int .i64 a0_1, .int .i64 a0_2, .int .i64 a0_3, .int .i64 a0_4, .int .i64 a0_5, .int .i64 a0_6, .int .i64 a0_7, .int .i64 a0_8, .int .i64 a0_9, .int .i64 a0_10, .int .i64 a0_11, .int .i64 a0_12, .int .i64 a0_13, .int .i64 a0_14, .int .i64 a0_15, .int .i64 a0_16, .int .i64 a0_17, .int .i64 a0_18, .int .i64 a0_19, .int .i64 a0_20]) (t := 33) ?hr ?_; (case hd => rfl); (case hg => rfl); (case hr => first | (go_simp; done) | (go_simp; rfl)); intro gb409 hg w20 hbox hb; have n0_ := Gv.a0 (below_step Gv.bw hb); have n1_ := Gv.a0 (hbox); have n2_ := Gv.a0 ((Gv.ble hg Gv.bw : w.heap.size ≤ gb409)); have n3_ := Gv.a0 ((Gv.ble hg Gv.bw : w.heap.size ≤ gb409)); clear HB; have HB := n0_; have BK409 := n1_; have GW409 := n2_; have GE409 := n3_; clear n0_ n1_ n2_ n3_; clear hb hbox hg; obtain ⟨hcz21_0, hcz21_1, hcz21_2, hcz21_3, hcz21_4, hcz21_5, hcz21_6, hcz21_7, hcz21_8, hcz21_9, hcz21_10, hcz21_11, hcz21_12, hcz21_13, hcz21_14, hcz21_15, hcz21_16, hcz21_17, hcz21_18, hcz21_19, hcz21_20⟩ := Gv.c21 BK409.out) | ((with_reducible refine gate_store (t := 33) (p := 1) rfl ?_); refine Gv.store_event rfl rfl rfl rfl rfl (Gv.kb BK409.out) (by kernel_rfl) rfl (by simp; and_intros <;> rfl) ?_; intro w20s hbox hoth hbel; have n0_ := Gv.a0 (hbox); have n1_ := Gv.a0 (hbel w Gv.bw GE409.out); clear BK409 HB; have BK409 := n0_; have HB := n1_; clear n0_ n1_ hbox hoth hbel; (try clear hcz21_0 hcz21_1 hcz21_2 hcz21_3 hcz21_4 hcz21_5 hcz21_6 hcz21_7 hcz21_8 hcz21_9 hcz21_10 hcz21_11 hcz21_12 hcz21_13 hcz21_14 hcz21_15 hcz21_16 hcz21_17 hcz21_18 hcz21_19 hcz21_20); obtain ⟨hcz21_0, hcz21_1, hcz21_2, hcz21_3, hcz21_4, hcz21_5, hcz21_6, hcz21_7, hcz21_8, hcz21_9, hcz21_10, hcz21_11, hcz21_12, hcz21_13, hcz21_14, hcz21_15, hcz21_16, hcz21_17, hcz21_18, hcz21_19, hcz21_20⟩ := Gv.c21 BK409.out) | ((with_reducible refine gate_callee (f := 11) rfl ?_); refine goesL_ (some 4) rfl rfl Tryd.func11 (by kernel_rfl) rfl #[.agg #[.int .i64 a0_0, .int .i64 a0_1, .int .i64 a0_2, .int .i64 a0_3, .int .i64 a0_4, .int .i64 a0_5, .int .i64 a0_6, .int .i64 a0_7, .int .i64 a0_8, .int .i64 a0_9, .int .i64 a0_10, .int .i64 a0_11, .int .i64 a0_12, .int .i64 a0_13, .int .i64 a0_14, .int .i64 a0_15, .int .i64 a0_16, .int .i64 a0_17, .int .i64 a0_18, .int .i64 a0_19, .int .i64 a0_20]] rfl Gv.lm ?_; (with_reducible refine (impl_RuleOk.calls k a0_0 a0_1 a0_2 a0_3 a0_4 a0_5 a0_6 a0_7 a0_8 a0_9 a0_10 a0_11 a0_12 a0_13 a0_14 a0_15 a0_16 a0_17 a0_18 a0_19 a0_20 true _ A2.out).mono ?_); rintro e w22 ⟨rfl, hb⟩; refine ⟨_, rfl, ?_⟩; have n0_ := Gv.a0 (Gv.bb BK409.out hb); have n1_ := Gv.a0 (below_step Gv.bw hb); clear BK409; clear HB; have BK409 := n0_; have HB := n1_; clear n0_ n1_; (try clear hb); (try clear hb2); (try clear hk); (try clear hi)) | ((with_reducible refine Gv.gate_load (t := 33) rfl ?_); (try (refine gate_guard (by rfl) ?_; dsimp only)); refine wpList_load_row rfl 33 _ rfl gb409 rfl 33 _ _ _ (by first | exact Gv.kb0 BK409.out | exact Gv.kb1 (Gv.kb0 BK409.out)) Tryd.underlying33 rfl (by kernel_rfl) ?_))
      have n0_ := Gv.a0 (blk_drew BK409.out)
      have n1_ := Gv.a0 (below_drew1 HB.out)
      clear BK409
      clear HB
      have BK409 := n0_
      have HB := n1_
      clear n0_ n1_
      refine start_ (n := 40) (S := fun w' => w'.cell? ⟨gb409, 0, none⟩ = some (.int .i64 a0_0) ∧ w'.cell? ⟨gb409, 1, none⟩ = some (.int .i64 a0_1) ∧ w'.cell? ⟨gb409, 2, none⟩ = some (.int .i64 a0_2) ∧ w'.cell? ⟨gb409, 3, none⟩ = some (.int .i64 a0_3) ∧ w'.cell? ⟨gb409, 4, none⟩ = some (.int .i64 a0_4) ∧ w'.cell? ⟨gb409, 5, none⟩ = some (.int .i64 a0_5) ∧ w'.cell? ⟨gb409, 6, none⟩ = some (.int .i64 a0_6) ∧ w'.cell? ⟨gb409, 7, none⟩ = some (.int .i64 a0_7) ∧ w'.cell? ⟨gb409, 8, none⟩ = some (.int .i64 a0_8) ∧ w'.cell? ⟨gb409, 9, none⟩ = some (.int .i64 a0_9) ∧ w'.cell? ⟨gb409, 10, none⟩ = some (.int .i64 a0_10) ∧ w'.cell? ⟨gb409, 11, none⟩ = some (.int .i64 a0_11) ∧ w'.cell? ⟨gb409, 12, none⟩ = some (.int .i64 a0_12) ∧ w'.cell? ⟨gb409, 13, none⟩ = some (.int .i64 a0_13) ∧ w'.cell? ⟨gb409, 14, none⟩ = some (.int .i64 a0_14) ∧ w'.cell? ⟨gb409, 15, none⟩ = some (.int .i64 a0_15) ∧ w'.cell? ⟨gb409, 16, none⟩ = some (.int .i64 a0_16) ∧ w'.cell? ⟨gb409, 17, none⟩ = some (.int .i64 a0_17) ∧ w'.cell? ⟨gb409, 18, none⟩ = some (.int .i64 a0_18) ∧ w'.cell? ⟨gb409, 19, none⟩ = some (.int .i64 a0_19) ∧ w'.cell? ⟨gb409, 20, none⟩ = some (.int .i64 a0_20)) (ds := []) #[false, false, false, false, false, false, false, false, false, false, false, false, false, false, false, false, false, false, false, false, false, false, false, false, false, false, false, false, false, false, false, false, false, false, false, false, false, false, false, false] (by kernel_rfl) rfl rfl ⟨(blk_cell BK409.out 0).trans rfl, (blk_cell BK409.out 1).trans rfl, (blk_cell BK409.out 2).trans rfl, (blk_cell BK409.out 3).trans rfl, (blk_cell BK409.out 4).trans rfl, (blk_cell BK409.out 5).trans rfl, (blk_cell BK409.out 6).trans rfl, (blk_cell BK409.out 7).trans rfl, (blk_cell BK409.out 8).trans rfl, (blk_cell BK409.out 9).trans rfl, (blk_cell BK409.out 10).trans rfl, (blk_cell BK409.out 11).trans rfl, (blk_cell BK409.out 12).trans rfl, (blk_cell BK409.out 13).trans rfl, (blk_cell BK409.out 14).trans rfl, (blk_cell BK409.out 15).trans rfl, (blk_cell BK409.out 16).trans rfl, (blk_cell BK409.out 17).trans rfl, (blk_cell BK409.out 18).trans rfl, (blk_cell BK409.out 19).trans rfl, (blk_cell BK409.out 20).trans rfl⟩ (fun hHeld => ?_); refine with_tabW impl_RuleText.tab3 impl_RuleText.bits3 (fun HT_ HW_ => ?_)
      generalize w22.drew = w23 at BK409 HB hHeld ⊢
      refine Gv.pu 0 (some 6) HT_ ?_
      refine Gv.pu 3 (some 9) HT_ ?_
      refine Gv.pu 6 (some 12) HT_ ?_
      refine Gv.pu 9 (some 15) HT_ ?_
      refine Gv.pu 12 (some 18) HT_ ?_
      refine Gv.pu 16 (some 22) HT_ ?_
      refine Gv.pu 20 (some 26) HT_ ?_
      refine Gv.pu 24 (some 30) HT_ ?_
      refine Gv.pu 28 (some 34) HT_ ?_
      refine Gv.pu 31 (some 37) HT_ ?_
      refine Gv.pu 34 (some 40) HT_ ?_
      refine take_ (i := 1) (N := some 7) (v := ?_) (a' := ?_) #[true, true, false, true, false, false, true, false, false, true, false, false, true, false, false, false, true, false, false, false, true, false, false, false, true, false, false, false, true, false, false, true, false, false, true, false, false, false, false, false] rfl rfl (take_ofW HT_.out HW_.out (by kernel_rfl)) (fun _ _ _ h => h) (Or.inl ⟨by rfl, ?_⟩) hHeld ?_ ?_
      rotate_left
      ·rintro w' ⟨s0, s1, s2, s3, s4, s5, s6, s7, s8, s9, s10, s11, s12, s13, s14, s15, s16, s17, s18, s19, s20⟩
       first | ((refine Gv.load_run (t := 33) (A := ⟨gb409, 0, none⟩) (cs := [_, _, _, _, _, _, _, _, _, _, _, _, _, _, _, _, _, _, _, _, _]) (x := ?xx21_) ?ho21_ ?hx21_ ⟨s0, s1, s2, s3, s4, s5, s6, s7, s8, s9, s10, s11, s12, s13, s14, s15, s16, s17, s18, s19, s20, trivial⟩ Try.underlying33 rfl (by kernel_rfl)); (case ho21_ => rfl); (case hx21_ => rfl)) | (go_simp; with_reducible rfl)
      rotate_left
      ·simp only [Act.put, List.setIfInBounds_toArray, List.set_cons_zero, List.set_cons_succ, i64_w, i32_w]
       rfl
      refine take_ (i := 4) (N := some 10) (v := ?_) (a' := ?_) #[true, true, false, true, true, false, true, false, false, true, false, false, true, false, false, false, true, false, false, false, true, false, false, false, true, false, false, false, true, false, false, true, false, false, true, false, false, false, false, false] rfl rfl (take_ofW HT_.out HW_.out (by kernel_rfl)) (fun _ _ _ h => h) (Or.inl ⟨by rfl, ?_⟩) hHeld ?_ ?_
      rotate_left
      ·rintro w' ⟨s0, s1, s2, s3, s4, s5, s6, s7, s8, s9, s10, s11, s12, s13, s14, s15, s16, s17, s18, s19, s20⟩
       first | ((refine Gv.load_run (t := 33) (A := ⟨gb409, 0, none⟩) (cs := [_, _, _, _, _, _, _, _, _, _, _, _, _, _, _, _, _, _, _, _, _]) (x := ?xx23_) ?ho23_ ?hx23_ ⟨s0, s1, s2, s3, s4, s5, s6, s7, s8, s9, s10, s11, s12, s13, s14, s15, s16, s17, s18, s19, s20, trivial⟩ Try.underlying33 rfl (by kernel_rfl)); (case ho23_ => rfl); (case hx23_ => rfl)) | (go_simp; with_reducible rfl)
      rotate_left
      ·simp only [Act.put, List.setIfInBounds_toArray, List.set_cons_zero, List.set_cons_succ, i64_w, i32_w]
       rfl
      refine take_ (i := 7) (N := some 13) (v := ?_) (a' := ?_) #[true, true, false, true, true, false, true, true, false, true, false, false, true, false, false, false, true, false, false, false, true, false, false, false, true, false, false, false, true, false, false, true, false, false, true, false, false, false, false, false] rfl rfl (take_ofW HT_.out HW_.out (by kernel_rfl)) (fun _ _ _ h => h) (Or.inl ⟨by rfl, ?_⟩) hHeld ?_ ?_
      rotate_left
      ·rintro w' ⟨s0, s1, s2, s3, s4, s5, s6, s7, s8, s9, s10, s11, s12, s13, s14, s15, s16, s17, s18, s19, s20⟩
       first | ((refine Gv.load_run (t := 33) (A := ⟨gb409, 0, none⟩) (cs := [_, _, _, _, _, _, _, _, _, _, _, _, _, _, _, _, _, _, _, _, _]) (x := ?xx25_) ?ho25_ ?hx25_ ⟨s0, s1, s2, s3, s4, s5, s6, s7, s8, s9, s10, s11, s12, s13, s14, s15, s16, s17, s18, s19, s20, trivial⟩ Try.underlying33 rfl (by kernel_rfl)); (case ho25_ => rfl); (case hx25_ => rfl)) | (go_simp; with_reducible rfl)
      rotate_left
      ·simp only [Act.put, List.setIfInBounds_toArray, List.set_cons_zero, List.set_cons_succ, i64_w, i32_w]
       rfl
      refine take_ (i := 10) (N := some 16) (v := ?_) (a' := ?_) #[true, true, false, true, true, false, true, true, false, true, true, false, true, false, false, false, true, false, false, false, true, false, false, false, true, false, false, false, true, false, false, true, false, false, true, false, false, false, false, false] rfl rfl (take_ofW HT_.out HW_.out (by kernel_rfl)) (fun _ _ _ h => h) (Or.inl ⟨by rfl, ?_⟩) hHeld ?_ ?_
      rotate_left
      ·rintro w' ⟨s0, s1, s2, s3, s4, s5, s6, s7, s8, s9, s10, s11, s12, s13, s14, s15, s16, s17, s18, s19, s20⟩
       first | ((refine Gv.load_run (t := 33) (A := ⟨gb409, 0, none⟩) (cs := [_, _, _, _, _, _, _, _, _, _, _, _, _, _, _, _, _, _, _, _, _]) (x := ?xx27_) ?ho27_ ?hx27_ ⟨s0, s1, s2, s3, s4, s5, s6, s7, s8, s9, s10, s11, s12, s13, s14, s15, s16, s17, s18, s19, s20, trivial⟩ Try.underlying33 rfl (by kernel_rfl)); (case ho27_ => rfl); (case hx27_ => rfl)) | (go_simp; with_reducible rfl)
      rotate_left
      ·simp only [Act.put, List.setIfInBounds_toArray, List.set_cons_zero, List.set_cons_succ, i64_w, i32_w]
       rfl
      refine take_ (i := 13) (N := some 19) (v := ?_) (a' := ?_) #[true, true, false, true, true, false, true, true, false, true, true, false, true, true, false, false, true, false, false, false, true, false, false, false, true, false, false, false, true, false, false, true, false, false, true, false, false, false, false, false] rfl rfl (take_ofW HT_.out HW_.out (by kernel_rfl)) (fun _ _ _ h => h) (Or.inl ⟨by rfl, ?_⟩) hHeld ?_ ?_
      rotate_left
      ·rintro w' ⟨s0, s1, s2, s3, s4, s5, s6, s7, s8, s9, s10, s11, s12, s13, s14, s15, s16, s17, s18, s19, s20⟩
       first | ((refine Gv.load_run (t := 33) (A := ⟨gb409, 0, none⟩) (cs := [_, _, _, _, _, _, _, _, _, _, _, _, _, _, _, _, _, _, _, _, _]) (x := ?xx29_) ?ho29_ ?hx29_ ⟨s0, s1, s2, s3, s4, s5, s6, s7, s8, s9, s10, s11, s12, s13, s14, s15, s16, s17, s18, s19, s20, trivial⟩ Try.underlying33 rfl (by kernel_rfl)); (case ho29_ => rfl); (case hx29_ => rfl)) | (go_simp; with_reducible rfl)
      rotate_left
      ·simp only [Act.put, List.setIfInBounds_toArray, List.set_cons_zero, List.set_cons_succ, i64_w, i32_w]
       rfl
      refine take_ (i := 17) (N := some 23) (v := ?_) (a' := ?_) #[true, true, false, true, true, false, true, true, false, true, true, false, true, true, false, false, true, true, false, false, true, false, false, false, true, false, false, false, true, false, false, true, false, false, true, false, false, false, false, false] rfl rfl (take_ofW HT_.out HW_.out (by kernel_rfl)) (fun _ _ _ h => h) (Or.inl ⟨by rfl, ?_⟩) hHeld ?_ ?_
      rotate_left
      ·rintro w' ⟨s0, s1, s2, s3, s4, s5, s6, s7, s8, s9, s10, s11, s12, s13, s14, s15, s16, s17, s18, s19, s20⟩
       first | ((refine Gv.load_run (t := 33) (A := ⟨gb409, 0, none⟩) (cs := [_, _, _, _, _, _, _, _, _, _, _, _, _, _, _, _, _, _, _, _, _]) (x := ?xx31_) ?ho31_ ?hx31_ ⟨s0, s1, s2, s3, s4, s5, s6, s7, s8, s9, s10, s11, s12, s13, s14, s15, s16, s17, s18, s19, s20, trivial⟩ Try.underlying33 rfl (by kernel_rfl)); (case ho31_ => rfl); (case hx31_ => rfl)) | (go_simp; with_reducible rfl)
      rotate_left
      ·simp only [Act.put, List.setIfInBounds_toArray, List.set_cons_zero, List.set_cons_succ, i64_w, i32_w]
       rfl
      refine take_ (i := 21) (N := some 27) (v := ?_) (a' := ?_) #[true, true, false, true, true, false, true, true, false, true, true, false, true, true, false, false, true, true, false, false, true, true, false, false, true, false, false, false, true, false, false, true, false, false, true, false, false, false, false, false] rfl rfl (take_ofW HT_.out HW_.out (by kernel_rfl)) (fun _ _ _ h => h) (Or.inl ⟨by rfl, ?_⟩) hHeld ?_ ?_
      rotate_left
      ·rintro w' ⟨s0, s1, s2, s3, s4, s5, s6, s7, s8, s9, s10, s11, s12, s13, s14, s15, s16, s17, s18, s19, s20⟩
       first | ((refine Gv.load_run (t := 33) (A := ⟨gb409, 0, none⟩) (cs := [_, _, _, _, _, _, _, _, _, _, _, _, _, _, _, _, _, _, _, _, _]) (x := ?xx33_) ?ho33_ ?hx33_ ⟨s0, s1, s2, s3, s4, s5, s6, s7, s8, s9, s10, s11, s12, s13, s14, s15, s16, s17, s18, s19, s20, trivial⟩ Try.underlying33 rfl (by kernel_rfl)); (case ho33_ => rfl); (case hx33_ => rfl)) | (go_simp; with_reducible rfl)
      rotate_left
      ·simp only [Act.put, List.setIfInBounds_toArray, List.set_cons_zero, List.set_cons_succ, i64_w, i32_w]
       rfl
      refine take_ (i := 25) (N := some 31) (v := ?_) (a' := ?_) #[true, true, false, true, true, false, true, true, false, true, true, false, true, true, false, false, true, true, false, false, true, true, false, false, true, true, false, false, true, false, false, true, false, false, true, false, false, false, false, false] rfl rfl (take_ofW HT_.out HW_.out (by kernel_rfl)) (fun _ _ _ h => h) (Or.inl ⟨by rfl, ?_⟩) hHeld ?_ ?_
      rotate_left
      ·rintro w' ⟨s0, s1, s2, s3, s4, s5, s6, s7, s8, s9, s10, s11, s12, s13, s14, s15, s16, s17, s18, s19, s20⟩
       first | ((refine Gv.load_run (t := 33) (A := ⟨gb409, 0, none⟩) (cs := [_, _, _, _, _, _, _, _, _, _, _, _, _, _, _, _, _, _, _, _, _]) (x := ?xx35_) ?ho35_ ?hx35_ ⟨s0, s1, s2, s3, s4, s5, s6, s7, s8, s9, s10, s11, s12, s13, s14, s15, s16, s17, s18, s19, s20, trivial⟩ Try.underlying33 rfl (by kernel_rfl)); (case ho35_ => rfl); (case hx35_ => rfl)) | (go_simp; with_reducible rfl)
      rotate_left
      ·simp only [Act.put, List.setIfInBounds_toArray, List.set_cons_zero, List.set_cons_succ, i64_w, i32_w]
       rfl
      refine take_ (i := 29) (N := some 35) (v := ?_) (a' := ?_) #[true, true, false, true, true, false, true, true, false, true, true, false, true, true, false, false, true, true, false, false, true, true, false, false, true, true, false, false, true, true, false, true, false, false, true, false, false, false, false, false] rfl rfl (take_ofW HT_.out HW_.out (by kernel_rfl)) (fun _ _ _ h => h) (Or.inl ⟨by rfl, ?_⟩) hHeld ?_ ?_
      rotate_left
      ·rintro w' ⟨s0, s1, s2, s3, s4, s5, s6, s7, s8, s9, s10, s11, s12, s13, s14, s15, s16, s17, s18, s19, s20⟩
       first | ((refine Gv.load_run (t := 33) (A := ⟨gb409, 0, none⟩) (cs := [_, _, _, _, _, _, _, _, _, _, _, _, _, _, _, _, _, _, _, _, _]) (x := ?xx37_) ?ho37_ ?hx37_ ⟨s0, s1, s2, s3, s4, s5, s6, s7, s8, s9, s10, s11, s12, s13, s14, s15, s16, s17, s18, s19, s20, trivial⟩ Try.underlying33 rfl (by kernel_rfl)); (case ho37_ => rfl); (case hx37_ => rfl)) | (go_simp; with_reducible rfl)
      rotate_left
      ·simp only [Act.put, List.setIfInBounds_toArray, List.set_cons_zero, List.set_cons_succ, i64_w, i32_w]
       rfl
      refine take_ (i := 32) (N := some 38) (v := ?_) (a' := ?_) #[true, true, false, true, true, false, true, true, false, true, true, false, true, true, false, false, true, true, false, false, true, true, false, false, true, true, false, false, true, true, false, true, true, false, true, false, false, false, false, false] rfl rfl (take_ofW HT_.out HW_.out (by kernel_rfl)) (fun _ _ _ h => h) (Or.inl ⟨by rfl, ?_⟩) hHeld ?_ ?_
      rotate_left
      ·rintro w' ⟨s0, s1, s2, s3, s4, s5, s6, s7, s8, s9, s10, s11, s12, s13, s14, s15, s16, s17, s18, s19, s20⟩
       first | ((refine Gv.load_run (t := 33) (A := ⟨gb409, 0, none⟩) (cs := [_, _, _, _, _, _, _, _, _, _, _, _, _, _, _, _, _, _, _, _, _]) (x := ?xx39_) ?ho39_ ?hx39_ ⟨s0, s1, s2, s3, s4, s5, s6, s7, s8, s9, s10, s11, s12, s13, s14, s15, s16, s17, s18, s19, s20, trivial⟩ Try.underlying33 rfl (by kernel_rfl)); (case ho39_ => rfl); (case hx39_ => rfl)) | (go_simp; with_reducible rfl)
      rotate_left
      ·simp only [Act.put, List.setIfInBounds_toArray, List.set_cons_zero, List.set_cons_succ, i64_w, i32_w]
       rfl
      refine take_ (i := 35) (N := some 41) (v := ?_) (a' := ?_) #[true, true, false, true, true, false, true, true, false, true, true, false, true, true, false, false, true, true, false, false, true, true, false, false, true, true, false, false, true, true, false, true, true, false, true, true, false, false, false, false] rfl rfl (take_ofW HT_.out HW_.out (by kernel_rfl)) (fun _ _ _ h => h) (Or.inl ⟨by rfl, ?_⟩) hHeld ?_ ?_
      rotate_left
      ·rintro w' ⟨s0, s1, s2, s3, s4, s5, s6, s7, s8, s9, s10, s11, s12, s13, s14, s15, s16, s17, s18, s19, s20⟩
       first | ((refine Gv.load_run (t := 33) (A := ⟨gb409, 0, none⟩) (cs := [_, _, _, _, _, _, _, _, _, _, _, _, _, _, _, _, _, _, _, _, _]) (x := ?xx41_) ?ho41_ ?hx41_ ⟨s0, s1, s2, s3, s4, s5, s6, s7, s8, s9, s10, s11, s12, s13, s14, s15, s16, s17, s18, s19, s20, trivial⟩ Try.underlying33 rfl (by kernel_rfl)); (case ho41_ => rfl); (case hx41_ => rfl)) | (go_simp; with_reducible rfl)
      rotate_left
      ·simp only [Act.put, List.setIfInBounds_toArray, List.set_cons_zero, List.set_cons_succ, i64_w, i32_w]
       rfl
      refine one_ (i := 2) (N := some 8) #[true, true, true, true, true, false, true, true, false, true, true, false, true, true, false, false, true, true, false, false, true, true, false, false, true, true, false, false, true, true, false, true, true, false, true, true, false, false, false, false] rfl rfl (one_of HT_.out (by kernel_rfl)) (by decide) (fun K hK => ?_)
      refine goes_ Tryd.func13 (by kernel_rfl) rfl #[.int .i64 a0_0] (by rfl) rfl rfl Gv.lm ?_
      with_reducible refine (impl_NumText.calls a0_0 t411 _ (hE.out.below Gv.bw) A4.out).mono ?_
      rintro e w24 ⟨rfl, hb⟩
      refine ⟨_, rfl, ?_⟩
      have n0_ := Gv.a0 (Gv.bb BK409.out hb)
      have n1_ := Gv.a0 (below_step Gv.bw hb)
      clear BK409
      clear HB
      have BK409 := n0_
      have HB := n1_
      clear n0_ n1_
      (try clear hb)
      (try clear hb2)
      (try clear hk)
      (try clear hi)
      refine hK.out _ _ ⟨(blk_cell BK409.out 0).trans rfl, (blk_cell BK409.out 1).trans rfl, (blk_cell BK409.out 2).trans rfl, (blk_cell BK409.out 3).trans rfl, (blk_cell BK409.out 4).trans rfl, (blk_cell BK409.out 5).trans rfl, (blk_cell BK409.out 6).trans rfl, (blk_cell BK409.out 7).trans rfl, (blk_cell BK409.out 8).trans rfl, (blk_cell BK409.out 9).trans rfl, (blk_cell BK409.out 10).trans rfl, (blk_cell BK409.out 11).trans rfl, (blk_cell BK409.out 12).trans rfl, (blk_cell BK409.out 13).trans rfl, (blk_cell BK409.out 14).trans rfl, (blk_cell BK409.out 15).trans rfl, (blk_cell BK409.out 16).trans rfl, (blk_cell BK409.out 17).trans rfl, (blk_cell BK409.out 18).trans rfl, (blk_cell BK409.out 19).trans rfl, (blk_cell BK409.out 20).trans rfl⟩ (fun hHeld => ?_)
      clear hK K
      refine norm_ (a' := ?_) ?_ ?_
      rotate_left
      ·show Act.put _ (some 8) _ = _
       simp only [Act.put, List.setIfInBounds_toArray, List.set_cons_zero, List.set_cons_succ, i64_w, i32_w]
       rfl
      refine one_ (i := 5) (N := some 11) #[true, true, true, true, true, true, true, true, false, true, true, false, true, true, false, false, true, true, false, false, true, true, false, false, true, true, false, false, true, true, false, true, true, false, true, true, false, false, false, false] rfl rfl (one_of HT_.out (by kernel_rfl)) (by decide) (fun K hK => ?_)
      refine goes_ Tryd.func14 (by kernel_rfl) rfl #[.agg #[.int .i64 a0_1, .int .i64 a0_2, .int .i64 a0_3, .int .i64 a0_4, .int .i64 a0_5, .int .i64 a0_6]] (by rfl) rfl rfl Gv.lm ?_
      with_reducible refine (impl_PrefixText.calls k a0_1 a0_2 a0_3 a0_4 a0_5 a0_6 t412 _ (hE.out.below Gv.bw) A5.out).mono ?_
      rintro e w25 ⟨rfl, hb⟩
      refine ⟨_, rfl, ?_⟩
      have n0_ := Gv.a0 (Gv.bb BK409.out hb)
      have n1_ := Gv.a0 (below_step Gv.bw hb)
      clear BK409
      clear HB
      have BK409 := n0_
      have HB := n1_
      clear n0_ n1_
      (try clear hb)
      (try clear hb2)
      (try clear hk)
      (try clear hi)
      refine hK.out _ _ ⟨(blk_cell BK409.out 0).trans rfl, (blk_cell BK409.out 1).trans rfl, (blk_cell BK409.out 2).trans rfl, (blk_cell BK409.out 3).trans rfl, (blk_cell BK409.out 4).trans rfl, (blk_cell BK409.out 5).trans rfl, (blk_cell BK409.out 6).trans rfl, (blk_cell BK409.out 7).trans rfl, (blk_cell BK409.out 8).trans rfl, (blk_cell BK409.out 9).trans rfl, (blk_cell BK409.out 10).trans rfl, (blk_cell BK409.out 11).trans rfl, (blk_cell BK409.out 12).trans rfl, (blk_cell BK409.out 13).trans rfl, (blk_cell BK409.out 14).trans rfl, (blk_cell BK409.out 15).trans rfl, (blk_cell BK409.out 16).trans rfl, (blk_cell BK409.out 17).trans rfl, (blk_cell BK409.out 18).trans rfl, (blk_cell BK409.out 19).trans rfl, (blk_cell BK409.out 20).trans rfl⟩ (fun hHeld => ?_)
      clear hK K
      refine norm_ (a' := ?_) ?_ ?_
      rotate_left
      ·show Act.put _ (some 11) _ = _
       simp only [Act.put, List.setIfInBounds_toArray, List.set_cons_zero, List.set_cons_succ, i64_w, i32_w]
       rfl
      refine one_ (i := 8) (N := some 14) #[true, true, true, true, true, true, true, true, true, true, true, false, true, true, false, false, true, true, false, false, true, true, false, false, true, true, false, false, true, true, false, true, true, false, true, true, false, false, false, false] rfl rfl (one_of HT_.out (by kernel_rfl)) (by decide) (fun K hK => ?_)
      refine goes_ Tryd.func14 (by kernel_rfl) rfl #[.agg #[.int .i64 a0_7, .int .i64 a0_8, .int .i64 a0_9, .int .i64 a0_10, .int .i64 a0_11, .int .i64 a0_12]] (by rfl) rfl rfl Gv.lm ?_
      with_reducible refine (impl_PrefixText.calls k a0_7 a0_8 a0_9 a0_10 a0_11 a0_12 t413 _ (hE.out.below Gv.bw) A6.out).mono ?_
      rintro e w26 ⟨rfl, hb⟩
      refine ⟨_, rfl, ?_⟩
      have n0_ := Gv.a0 (Gv.bb BK409.out hb)
      have n1_ := Gv.a0 (below_step Gv.bw hb)
      clear BK409
      clear HB
      have BK409 := n0_
      have HB := n1_
      clear n0_ n1_
      (try clear hb)
      (try clear hb2)
      (try clear hk)
      (try clear hi)
      refine hK.out _ _ ⟨(blk_cell BK409.out 0).trans rfl, (blk_cell BK409.out 1).trans rfl, (blk_cell BK409.out 2).trans rfl, (blk_cell BK409.out 3).trans rfl, (blk_cell BK409.out 4).trans rfl, (blk_cell BK409.out 5).trans rfl, (blk_cell BK409.out 6).trans rfl, (blk_cell BK409.out 7).trans rfl, (blk_cell BK409.out 8).trans rfl, (blk_cell BK409.out 9).trans rfl, (blk_cell BK409.out 10).trans rfl, (blk_cell BK409.out 11).trans rfl, (blk_cell BK409.out 12).trans rfl, (blk_cell BK409.out 13).trans rfl, (blk_cell BK409.out 14).trans rfl, (blk_cell BK409.out 15).trans rfl, (blk_cell BK409.out 16).trans rfl, (blk_cell BK409.out 17).trans rfl, (blk_cell BK409.out 18).trans rfl, (blk_cell BK409.out 19).trans rfl, (blk_cell BK409.out 20).trans rfl⟩ (fun hHeld => ?_)
      clear hK K
      refine norm_ (a' := ?_) ?_ ?_
      rotate_left
      ·show Act.put _ (some 14) _ = _
       simp only [Act.put, List.setIfInBounds_toArray, List.set_cons_zero, List.set_cons_succ, i64_w, i32_w]
       rfl
      refine one_ (i := 11) (N := some 17) #[true, true, true, true, true, true, true, true, true, true, true, true, true, true, false, false, true, true, false, false, true, true, false, false, true, true, false, false, true, true, false, true, true, false, true, true, false, false, false, false] rfl rfl (one_of HT_.out (by kernel_rfl)) (by decide) (fun K hK => ?_)
      refine goes_ Tryd.func15 (by kernel_rfl) rfl #[.int .i64 a0_13] (by rfl) rfl rfl Gv.lm ?_
      with_reducible refine (impl_protoText.calls a0_13 t414 _ (hE.out.below Gv.bw) A7.out).mono ?_
      rintro e w27 ⟨rfl, hb⟩
      refine ⟨_, rfl, ?_⟩
      have n0_ := Gv.a0 (Gv.bb BK409.out hb)
      have n1_ := Gv.a0 (below_step Gv.bw hb)
      clear BK409
      clear HB
      have BK409 := n0_
      have HB := n1_
      clear n0_ n1_
      (try clear hb)
      (try clear hb2)
      (try clear hk)
      (try clear hi)
      refine hK.out _ _ ⟨(blk_cell BK409.out 0).trans rfl, (blk_cell BK409.out 1).trans rfl, (blk_cell BK409.out 2).trans rfl, (blk_cell BK409.out 3).trans rfl, (blk_cell BK409.out 4).trans rfl, (blk_cell BK409.out 5).trans rfl, (blk_cell BK409.out 6).trans rfl, (blk_cell BK409.out 7).trans rfl, (blk_cell BK409.out 8).trans rfl, (blk_cell BK409.out 9).trans rfl, (blk_cell BK409.out 10).trans rfl, (blk_cell BK409.out 11).trans rfl, (blk_cell BK409.out 12).trans rfl, (blk_cell BK409.out 13).trans rfl, (blk_cell BK409.out 14).trans rfl, (blk_cell BK409.out 15).trans rfl, (blk_cell BK409.out 16).trans rfl, (blk_cell BK409.out 17).trans rfl, (blk_cell BK409.out 18).trans rfl, (blk_cell BK409.out 19).trans rfl, (blk_cell BK409.out 20).trans rfl⟩ (fun hHeld => ?_)
      clear hK K
      refine norm_ (a' := ?_) ?_ ?_
      rotate_left
      ·show Act.put _ (some 17) _ = _
       simp only [Act.put, List.setIfInBounds_toArray, List.set_cons_zero, List.set_cons_succ, i64_w, i32_w]
       rfl
      refine one_ (i := 14) (N := some 20) #[true, true, true, true, true, true, true, true, true, true, true, true, true, true, true, false, true, true, false, false, true, true, false, false, true, true, false, false, true, true, false, true, true, false, true, true, false, false, false, false] rfl rfl (one_of HT_.out (by kernel_rfl)) (by decide) (fun K hK => ?_)
      refine goes_ Tryd.func13 (by kernel_rfl) rfl #[.int .i64 a0_14] (by rfl) rfl rfl Gv.lm ?_
      with_reducible refine (impl_NumText.calls a0_14 t415 _ (hE.out.below Gv.bw) A8.out).mono ?_
      rintro e w28 ⟨rfl, hb⟩
      refine ⟨_, rfl, ?_⟩
      have n0_ := Gv.a0 (Gv.bb BK409.out hb)
      have n1_ := Gv.a0 (below_step Gv.bw hb)
      clear BK409
      clear HB
      have BK409 := n0_
      have HB := n1_
      clear n0_ n1_
      (try clear hb)
      (try clear hb2)
      (try clear hk)
      (try clear hi)
      refine hK.out _ _ ⟨(blk_cell BK409.out 0).trans rfl, (blk_cell BK409.out 1).trans rfl, (blk_cell BK409.out 2).trans rfl, (blk_cell BK409.out 3).trans rfl, (blk_cell BK409.out 4).trans rfl, (blk_cell BK409.out 5).trans rfl, (blk_cell BK409.out 6).trans rfl, (blk_cell BK409.out 7).trans rfl, (blk_cell BK409.out 8).trans rfl, (blk_cell BK409.out 9).trans rfl, (blk_cell BK409.out 10).trans rfl, (blk_cell BK409.out 11).trans rfl, (blk_cell BK409.out 12).trans rfl, (blk_cell BK409.out 13).trans rfl, (blk_cell BK409.out 14).trans rfl, (blk_cell BK409.out 15).trans rfl, (blk_cell BK409.out 16).trans rfl, (blk_cell BK409.out 17).trans rfl, (blk_cell BK409.out 18).trans rfl, (blk_cell BK409.out 19).trans rfl, (blk_cell BK409.out 20).trans rfl⟩ (fun hHeld => ?_)
      clear hK K
      refine norm_ (a' := ?_) ?_ ?_
      rotate_left
      ·show Act.put _ (some 20) _ = _
       simp only [Act.put, List.setIfInBounds_toArray, List.set_cons_zero, List.set_cons_succ, i64_w, i32_w]
       rfl
      refine Gv.pu 15 (some 21) HT_ ?_
      refine one_ (i := 18) (N := some 24) #[true, true, true, true, true, true, true, true, true, true, true, true, true, true, true, true, true, true, true, false, true, true, false, false, true, true, false, false, true, true, false, true, true, false, true, true, false, false, false, false] rfl rfl (one_of HT_.out (by kernel_rfl)) (by decide) (fun K hK => ?_)
      refine goes_ Tryd.func13 (by kernel_rfl) rfl #[.int .i64 a0_15] (by rfl) rfl rfl Gv.lm ?_
      with_reducible refine (impl_NumText.calls a0_15 t416 _ (hE.out.below Gv.bw) A10.out).mono ?_
      rintro e w29 ⟨rfl, hb⟩
      refine ⟨_, rfl, ?_⟩
      have n0_ := Gv.a0 (Gv.bb BK409.out hb)
      have n1_ := Gv.a0 (below_step Gv.bw hb)
      clear BK409
      clear HB
      have BK409 := n0_
      have HB := n1_
      clear n0_ n1_
      (try clear hb)
      (try clear hb2)
      (try clear hk)
      (try clear hi)
      refine hK.out _ _ ⟨(blk_cell BK409.out 0).trans rfl, (blk_cell BK409.out 1).trans rfl, (blk_cell BK409.out 2).trans rfl, (blk_cell BK409.out 3).trans rfl, (blk_cell BK409.out 4).trans rfl, (blk_cell BK409.out 5).trans rfl, (blk_cell BK409.out 6).trans rfl, (blk_cell BK409.out 7).trans rfl, (blk_cell BK409.out 8).trans rfl, (blk_cell BK409.out 9).trans rfl, (blk_cell BK409.out 10).trans rfl, (blk_cell BK409.out 11).trans rfl, (blk_cell BK409.out 12).trans rfl, (blk_cell BK409.out 13).trans rfl, (blk_cell BK409.out 14).trans rfl, (blk_cell BK409.out 15).trans rfl, (blk_cell BK409.out 16).trans rfl, (blk_cell BK409.out 17).trans rfl, (blk_cell BK409.out 18).trans rfl, (blk_cell BK409.out 19).trans rfl, (blk_cell BK409.out 20).trans rfl⟩ (fun hHeld => ?_)
      clear hK K
      refine norm_ (a' := ?_) ?_ ?_
      rotate_left
      ·show Act.put _ (some 24) _ = _
       simp only [Act.put, List.setIfInBounds_toArray, List.set_cons_zero, List.set_cons_succ, i64_w, i32_w]
       rfl
      refine Gv.pu 19 (some 25) HT_ ?_
      refine one_ (i := 22) (N := some 28) #[true, true, true, true, true, true, true, true, true, true, true, true, true, true, true, true, true, true, true, true, true, true, true, false, true, true, false, false, true, true, false, true, true, false, true, true, false, false, false, false] rfl rfl (one_of HT_.out (by kernel_rfl)) (by decide) (fun K hK => ?_)
      refine goes_ Tryd.func13 (by kernel_rfl) rfl #[.int .i64 a0_16] (by rfl) rfl rfl Gv.lm ?_
      with_reducible refine (impl_NumText.calls a0_16 t417 _ (hE.out.below Gv.bw) A12.out).mono ?_
      rintro e w30 ⟨rfl, hb⟩
      refine ⟨_, rfl, ?_⟩
      have n0_ := Gv.a0 (Gv.bb BK409.out hb)
      have n1_ := Gv.a0 (below_step Gv.bw hb)
      clear BK409
      clear HB
      have BK409 := n0_
      have HB := n1_
      clear n0_ n1_
      (try clear hb)
      (try clear hb2)
      (try clear hk)
      (try clear hi)
      refine hK.out _ _ ⟨(blk_cell BK409.out 0).trans rfl, (blk_cell BK409.out 1).trans rfl, (blk_cell BK409.out 2).trans rfl, (blk_cell BK409.out 3).trans rfl, (blk_cell BK409.out 4).trans rfl, (blk_cell BK409.out 5).trans rfl, (blk_cell BK409.out 6).trans rfl, (blk_cell BK409.out 7).trans rfl, (blk_cell BK409.out 8).trans rfl, (blk_cell BK409.out 9).trans rfl, (blk_cell BK409.out 10).trans rfl, (blk_cell BK409.out 11).trans rfl, (blk_cell BK409.out 12).trans rfl, (blk_cell BK409.out 13).trans rfl, (blk_cell BK409.out 14).trans rfl, (blk_cell BK409.out 15).trans rfl, (blk_cell BK409.out 16).trans rfl, (blk_cell BK409.out 17).trans rfl, (blk_cell BK409.out 18).trans rfl, (blk_cell BK409.out 19).trans rfl, (blk_cell BK409.out 20).trans rfl⟩ (fun hHeld => ?_)
      clear hK K
      refine norm_ (a' := ?_) ?_ ?_
      rotate_left
      ·show Act.put _ (some 28) _ = _
       simp only [Act.put, List.setIfInBounds_toArray, List.set_cons_zero, List.set_cons_succ, i64_w, i32_w]
       rfl
      refine Gv.pu 23 (some 29) HT_ ?_
      refine one_ (i := 26) (N := some 32) #[true, true, true, true, true, true, true, true, true, true, true, true, true, true, true, true, true, true, true, true, true, true, true, true, true, true, true, false, true, true, false, true, true, false, true, true, false, false, false, false] rfl rfl (one_of HT_.out (by kernel_rfl)) (by decide) (fun K hK => ?_)
      refine goes_ Tryd.func13 (by kernel_rfl) rfl #[.int .i64 a0_17] (by rfl) rfl rfl Gv.lm ?_
      with_reducible refine (impl_NumText.calls a0_17 t418 _ (hE.out.below Gv.bw) A14.out).mono ?_
      rintro e w31 ⟨rfl, hb⟩
      refine ⟨_, rfl, ?_⟩
      have n0_ := Gv.a0 (Gv.bb BK409.out hb)
      have n1_ := Gv.a0 (below_step Gv.bw hb)
      clear BK409
      clear HB
      have BK409 := n0_
      have HB := n1_
      clear n0_ n1_
      (try clear hb)
      (try clear hb2)
      (try clear hk)
      (try clear hi)
      refine hK.out _ _ ⟨(blk_cell BK409.out 0).trans rfl, (blk_cell BK409.out 1).trans rfl, (blk_cell BK409.out 2).trans rfl, (blk_cell BK409.out 3).trans rfl, (blk_cell BK409.out 4).trans rfl, (blk_cell BK409.out 5).trans rfl, (blk_cell BK409.out 6).trans rfl, (blk_cell BK409.out 7).trans rfl, (blk_cell BK409.out 8).trans rfl, (blk_cell BK409.out 9).trans rfl, (blk_cell BK409.out 10).trans rfl, (blk_cell BK409.out 11).trans rfl, (blk_cell BK409.out 12).trans rfl, (blk_cell BK409.out 13).trans rfl, (blk_cell BK409.out 14).trans rfl, (blk_cell BK409.out 15).trans rfl, (blk_cell BK409.out 16).trans rfl, (blk_cell BK409.out 17).trans rfl, (blk_cell BK409.out 18).trans rfl, (blk_cell BK409.out 19).trans rfl, (blk_cell BK409.out 20).trans rfl⟩ (fun hHeld => ?_)
      clear hK K
      refine norm_ (a' := ?_) ?_ ?_
      rotate_left
      ·show Act.put _ (some 32) _ = _
       simp only [Act.put, List.setIfInBounds_toArray, List.set_cons_zero, List.set_cons_succ, i64_w, i32_w]
       rfl
      refine Gv.pu 27 (some 33) HT_ ?_
      refine one_ (i := 30) (N := some 36) #[true, true, true, true, true, true, true, true, true, true, true, true, true, true, true, true, true, true, true, true, true, true, true, true, true, true, true, true, true, true, true, true, true, false, true, true, false, false, false, false] rfl rfl (one_of HT_.out (by kernel_rfl)) (by decide) (fun K hK => ?_)
      refine goes_ Tryd.func13 (by kernel_rfl) rfl #[.int .i64 a0_18] (by rfl) rfl rfl Gv.lm ?_
      with_reducible refine (impl_NumText.calls a0_18 t419 _ (hE.out.below Gv.bw) A16.out).mono ?_
      rintro e w32 ⟨rfl, hb⟩
      refine ⟨_, rfl, ?_⟩
      have n0_ := Gv.a0 (Gv.bb BK409.out hb)
      have n1_ := Gv.a0 (below_step Gv.bw hb)
      clear BK409
      clear HB
      have BK409 := n0_
      have HB := n1_
      clear n0_ n1_
      (try clear hb)
      (try clear hb2)
      (try clear hk)
      (try clear hi)
      refine hK.out _ _ ⟨(blk_cell BK409.out 0).trans rfl, (blk_cell BK409.out 1).trans rfl, (blk_cell BK409.out 2).trans rfl, (blk_cell BK409.out 3).trans rfl, (blk_cell BK409.out 4).trans rfl, (blk_cell BK409.out 5).trans rfl, (blk_cell BK409.out 6).trans rfl, (blk_cell BK409.out 7).trans rfl, (blk_cell BK409.out 8).trans rfl, (blk_cell BK409.out 9).trans rfl, (blk_cell BK409.out 10).trans rfl, (blk_cell BK409.out 11).trans rfl, (blk_cell BK409.out 12).trans rfl, (blk_cell BK409.out 13).trans rfl, (blk_cell BK409.out 14).trans rfl, (blk_cell BK409.out 15).trans rfl, (blk_cell BK409.out 16).trans rfl, (blk_cell BK409.out 17).trans rfl, (blk_cell BK409.out 18).trans rfl, (blk_cell BK409.out 19).trans rfl, (blk_cell BK409.out 20).trans rfl⟩ (fun hHeld => ?_)
      clear hK K
      refine norm_ (a' := ?_) ?_ ?_
      rotate_left
      ·show Act.put _ (some 36) _ = _
       simp only [Act.put, List.setIfInBounds_toArray, List.set_cons_zero, List.set_cons_succ, i64_w, i32_w]
       rfl
      refine one_ (i := 33) (N := some 39) #[true, true, true, true, true, true, true, true, true, true, true, true, true, true, true, true, true, true, true, true, true, true, true, true, true, true, true, true, true, true, true, true, true, true, true, true, false, false, false, false] rfl rfl (one_of HT_.out (by kernel_rfl)) (by decide) (fun K hK => ?_)
      refine goes_ Tryd.func13 (by kernel_rfl) rfl #[.int .i64 a0_19] (by rfl) rfl rfl Gv.lm ?_
      with_reducible refine (impl_NumText.calls a0_19 t420 _ (hE.out.below Gv.bw) A17.out).mono ?_
      rintro e w33 ⟨rfl, hb⟩
      refine ⟨_, rfl, ?_⟩
      have n0_ := Gv.a0 (Gv.bb BK409.out hb)
      have n1_ := Gv.a0 (below_step Gv.bw hb)
      clear BK409
      clear HB
      have BK409 := n0_
      have HB := n1_
      clear n0_ n1_
      (try clear hb)
      (try clear hb2)
      (try clear hk)
      (try clear hi)
      refine hK.out _ _ ⟨(blk_cell BK409.out 0).trans rfl, (blk_cell BK409.out 1).trans rfl, (blk_cell BK409.out 2).trans rfl, (blk_cell BK409.out 3).trans rfl, (blk_cell BK409.out 4).trans rfl, (blk_cell BK409.out 5).trans rfl, (blk_cell BK409.out 6).trans rfl, (blk_cell BK409.out 7).trans rfl, (blk_cell BK409.out 8).trans rfl, (blk_cell BK409.out 9).trans rfl, (blk_cell BK409.out 10).trans rfl, (blk_cell BK409.out 11).trans rfl, (blk_cell BK409.out 12).trans rfl, (blk_cell BK409.out 13).trans rfl, (blk_cell BK409.out 14).trans rfl, (blk_cell BK409.out 15).trans rfl, (blk_cell BK409.out 16).trans rfl, (blk_cell BK409.out 17).trans rfl, (blk_cell BK409.out 18).trans rfl, (blk_cell BK409.out 19).trans rfl, (blk_cell BK409.out 20).trans rfl⟩ (fun hHeld => ?_)
      clear hK K
      refine norm_ (a' := ?_) ?_ ?_
      rotate_left
      ·show Act.put _ (some 39) _ = _
       simp only [Act.put, List.setIfInBounds_toArray, List.set_cons_zero, List.set_cons_succ, i64_w, i32_w]
       rfl
      refine one_ (i := 36) (N := some 42) #[true, true, true, true, true, true, true, true, true, true, true, true, true, true, true, true, true, true, true, true, true, true, true, true, true, true, true, true, true, true, true, true, true, true, true, true, true, false, false, false] rfl rfl (one_of HT_.out (by kernel_rfl)) (by decide) (fun K hK => ?_)
      refine goes_ Tryd.func13 (by kernel_rfl) rfl #[.int .i64 a0_20] (by rfl) rfl rfl Gv.lm ?_
      with_reducible refine (impl_NumText.calls a0_20 t421 _ (hE.out.below Gv.bw) A18.out).mono ?_
      rintro e w34 ⟨rfl, hb⟩
      refine ⟨_, rfl, ?_⟩
      have n0_ := Gv.a0 (Gv.bb BK409.out hb)
      have n1_ := Gv.a0 (below_step Gv.bw hb)
      clear BK409
      clear HB
      have BK409 := n0_
      have HB := n1_
      clear n0_ n1_
      (try clear hb)
      (try clear hb2)
      (try clear hk)
      (try clear hi)
      refine hK.out _ _ ⟨(blk_cell BK409.out 0).trans rfl, (blk_cell BK409.out 1).trans rfl, (blk_cell BK409.out 2).trans rfl, (blk_cell BK409.out 3).trans rfl, (blk_cell BK409.out 4).trans rfl, (blk_cell BK409.out 5).trans rfl, (blk_cell BK409.out 6).trans rfl, (blk_cell BK409.out 7).trans rfl, (blk_cell BK409.out 8).trans rfl, (blk_cell BK409.out 9).trans rfl, (blk_cell BK409.out 10).trans rfl, (blk_cell BK409.out 11).trans rfl, (blk_cell BK409.out 12).trans rfl, (blk_cell BK409.out 13).trans rfl, (blk_cell BK409.out 14).trans rfl, (blk_cell BK409.out 15).trans rfl, (blk_cell BK409.out 16).trans rfl, (blk_cell BK409.out 17).trans rfl, (blk_cell BK409.out 18).trans rfl, (blk_cell BK409.out 19).trans rfl, (blk_cell BK409.out 20).trans rfl⟩ (fun hHeld => ?_)
      clear hK K
      refine norm_ (a' := ?_) ?_ ?_
      rotate_left
      ·show Act.put _ (some 42) _ = _
       simp only [Act.put, List.setIfInBounds_toArray, List.set_cons_zero, List.set_cons_succ, i64_w, i32_w]
       rfl
      refine one_ (i := 37) (N := some 43) #[true, true, true, true, true, true, true, true, true, true, true, true, true, true, true, true, true, true, true, true, true, true, true, true, true, true, true, true, true, true, true, true, true, true, true, true, true, true, false, false] rfl rfl (one_of HT_.out (by kernel_rfl)) (by decide) (fun K hK => ?_)
      refine Kd.R_lit_step Kd.string _ 9 ?hg (N := 43) ?hd (xs := ([t411, (⟨#[102, 114, 111, 109]⟩ : ByteArray), t412, (⟨#[116, 111]⟩ : ByteArray), t413, (⟨#[112, 114, 111, 116, 111]⟩ : ByteArray), t414, (⟨#[115, 112, 111, 114, 116]⟩ : ByteArray), (t415 ++ (⟨#[45]⟩ : ByteArray)) ++ t416, (⟨#[100, 112, 111, 114, 116]⟩ : ByteArray), (t417 ++ (⟨#[45]⟩ : ByteArray)) ++ t418, (⟨#[116, 101, 110, 97, 110, 116]⟩ : ByteArray), t419, (⟨#[119, 101, 105, 103, 104, 116]⟩ : ByteArray), t420, (⟨#[99, 104, 97, 105, 110]⟩ : ByteArray), t421] : List ByteArray)) (inner := [.string t411, .string (⟨#[102, 114, 111, 109]⟩ : ByteArray), .string t412, .string (⟨#[116, 111]⟩ : ByteArray), .string t413, .string (⟨#[112, 114, 111, 116, 111]⟩ : ByteArray), .string t414, .string (⟨#[115, 112, 111, 114, 116]⟩ : ByteArray), .string ((t415 ++ (⟨#[45]⟩ : ByteArray)) ++ t416), .string (⟨#[100, 112, 111, 114, 116]⟩ : ByteArray), .string ((t417 ++ (⟨#[45]⟩ : ByteArray)) ++ t418), .string (⟨#[116, 101, 110, 97, 110, 116]⟩ : ByteArray), .string t419, .string (⟨#[119, 101, 105, 103, 104, 116]⟩ : ByteArray), .string t420, .string (⟨#[99, 104, 97, 105, 110]⟩ : ByteArray), .string t421]) (ok := fun _ => True) (okp := fun _ => True) ?hr ?hp (fun _ hk => hk) trivial (Below.refl _ _) (Nat.le_refl _) (by simp) ?_; (case hd => rfl); (case hg => rfl); (case hr => first | (go_simp; done) | (go_simp; rfl)); (case hp => exact (Reps.one (show Kd.M Kd.string _ _ _ t411 [.string t411] from rfl) (Reps.one (show Kd.M Kd.string _ _ _ (⟨#[102, 114, 111, 109]⟩ : ByteArray) [.string (⟨#[102, 114, 111, 109]⟩ : ByteArray)] from rfl) (Reps.one (show Kd.M Kd.string _ _ _ t412 [.string t412] from rfl) (Reps.one (show Kd.M Kd.string _ _ _ (⟨#[116, 111]⟩ : ByteArray) [.string (⟨#[116, 111]⟩ : ByteArray)] from rfl) (Reps.one (show Kd.M Kd.string _ _ _ t413 [.string t413] from rfl) (Reps.one (show Kd.M Kd.string _ _ _ (⟨#[112, 114, 111, 116, 111]⟩ : ByteArray) [.string (⟨#[112, 114, 111, 116, 111]⟩ : ByteArray)] from rfl) (Reps.one (show Kd.M Kd.string _ _ _ t414 [.string t414] from rfl) (Reps.one (show Kd.M Kd.string _ _ _ (⟨#[115, 112, 111, 114, 116]⟩ : ByteArray) [.string (⟨#[115, 112, 111, 114, 116]⟩ : ByteArray)] from rfl) (Reps.one (show Kd.M Kd.string _ _ _ ((t415 ++ (⟨#[45]⟩ : ByteArray)) ++ t416) [.string ((t415 ++ (⟨#[45]⟩ : ByteArray)) ++ t416)] from rfl) (Reps.one (show Kd.M Kd.string _ _ _ (⟨#[100, 112, 111, 114, 116]⟩ : ByteArray) [.string (⟨#[100, 112, 111, 114, 116]⟩ : ByteArray)] from rfl) (Reps.one (show Kd.M Kd.string _ _ _ ((t417 ++ (⟨#[45]⟩ : ByteArray)) ++ t418) [.string ((t417 ++ (⟨#[45]⟩ : ByteArray)) ++ t418)] from rfl) (Reps.one (show Kd.M Kd.string _ _ _ (⟨#[116, 101, 110, 97, 110, 116]⟩ : ByteArray) [.string (⟨#[116, 101, 110, 97, 110, 116]⟩ : ByteArray)] from rfl) (Reps.one (show Kd.M Kd.string _ _ _ t419 [.string t419] from rfl) (Reps.one (show Kd.M Kd.string _ _ _ (⟨#[119, 101, 105, 103, 104, 116]⟩ : ByteArray) [.string (⟨#[119, 101, 105, 103, 104, 116]⟩ : ByteArray)] from rfl) (Reps.one (show Kd.M Kd.string _ _ _ t420 [.string t420] from rfl) (Reps.one (show Kd.M Kd.string _ _ _ (⟨#[99, 104, 97, 105, 110]⟩ : ByteArray) [.string (⟨#[99, 104, 97, 105, 110]⟩ : ByteArray)] from rfl) (Reps.one (show Kd.M Kd.string _ _ _ t421 [.string t421] from rfl) (Reps.none _ _)))))))))))))))))))
      intro v423 w35 ho36 hb hg_ hnew_
      clear hg_ hnew_
      (first | rw [← Ny422.out] at ho36 | (simp only [Int.reduceToNat] at ho36; rw [← Ny422.out] at ho36))
      have n0_ := Gv.a0 (Kd.R_lower ho36 (below_size Gv.bw))
      have n1_ := Gv.a0 (Gv.bb BK409.out hb)
      have n2_ := Gv.a0 (below_step Gv.bw hb)
      clear BK409
      clear HB
      have HO424 := n0_
      have BK409 := n1_
      have HB := n2_
      clear n0_ n1_ n2_
      clear hb ho36
      obtain ⟨Ao37, co37, eo37⟩ := Kd.R_slice HO424.out
      (first | subst eo37 | (injection eo37 with f1_ f2_ f3_; have f4_ := f1_.symm; have f5_ := f3_.symm; clear f1_ f2_ f3_; subst f4_; subst f5_))
      refine hK.out _ _ ⟨(blk_cell BK409.out 0).trans rfl, (blk_cell BK409.out 1).trans rfl, (blk_cell BK409.out 2).trans rfl, (blk_cell BK409.out 3).trans rfl, (blk_cell BK409.out 4).trans rfl, (blk_cell BK409.out 5).trans rfl, (blk_cell BK409.out 6).trans rfl, (blk_cell BK409.out 7).trans rfl, (blk_cell BK409.out 8).trans rfl, (blk_cell BK409.out 9).trans rfl, (blk_cell BK409.out 10).trans rfl, (blk_cell BK409.out 11).trans rfl, (blk_cell BK409.out 12).trans rfl, (blk_cell BK409.out 13).trans rfl, (blk_cell BK409.out 14).trans rfl, (blk_cell BK409.out 15).trans rfl, (blk_cell BK409.out 16).trans rfl, (blk_cell BK409.out 17).trans rfl, (blk_cell BK409.out 18).trans rfl, (blk_cell BK409.out 19).trans rfl, (blk_cell BK409.out 20).trans rfl⟩ (fun hHeld => ?_)
      clear hK K
      refine norm_ (a' := ?_) ?_ ?_
      rotate_left
      ·show Act.put _ (some 43) _ = _
       simp only [Act.put, List.setIfInBounds_toArray, List.set_cons_zero, List.set_cons_succ, i64_w, i32_w]
       rfl
      refine one_ (i := 38) (N := some 44) #[true, true, true, true, true, true, true, true, true, true, true, true, true, true, true, true, true, true, true, true, true, true, true, true, true, true, true, true, true, true, true, true, true, true, true, true, true, true, true, false] rfl rfl (one_of HT_.out (by kernel_rfl)) (by decide) (fun K hK => ?_)
      refine goes_ Tryd.func12 (by kernel_rfl) rfl #[.slice Ao37 y422.length co37, .string (⟨#[32]⟩ : ByteArray)] (by rfl) rfl rfl Gv.lm ?_
      with_reducible refine (strings_Join.calls _ _ y422 (⟨#[32]⟩ : ByteArray) t425 _ ?side1 ?side2 A19.out).mono ?_
      (case side1 => repeat (first | exact (Kd.R_reads' HO424.out).2.2 | (with_reducible refine Kd.C_alloc ?_ _) | (with_reducible refine Kd.C_drewN ?_ _) | (with_reducible refine Kd.C_drew ?_)))
      (case side2 => exact (Kd.R_reads' HO424.out).2.1)
      rintro e w38 ⟨rfl, hb⟩
      refine ⟨_, rfl, ?_⟩
      have n0_ := Gv.a0 (Kd.R_below (Gv.kr HO424.out) hb)
      have n1_ := Gv.a0 (Gv.bb BK409.out hb)
      have n2_ := Gv.a0 (below_step Gv.bw hb)
      clear HO424
      clear BK409
      clear HB
      have HO424 := n0_
      have BK409 := n1_
      have HB := n2_
      clear n0_ n1_ n2_
      (try clear hb)
      (try clear hb2)
      (try clear hk)
      (try clear hi)
      refine hK.out _ _ ⟨(blk_cell BK409.out 0).trans rfl, (blk_cell BK409.out 1).trans rfl, (blk_cell BK409.out 2).trans rfl, (blk_cell BK409.out 3).trans rfl, (blk_cell BK409.out 4).trans rfl, (blk_cell BK409.out 5).trans rfl, (blk_cell BK409.out 6).trans rfl, (blk_cell BK409.out 7).trans rfl, (blk_cell BK409.out 8).trans rfl, (blk_cell BK409.out 9).trans rfl, (blk_cell BK409.out 10).trans rfl, (blk_cell BK409.out 11).trans rfl, (blk_cell BK409.out 12).trans rfl, (blk_cell BK409.out 13).trans rfl, (blk_cell BK409.out 14).trans rfl, (blk_cell BK409.out 15).trans rfl, (blk_cell BK409.out 16).trans rfl, (blk_cell BK409.out 17).trans rfl, (blk_cell BK409.out 18).trans rfl, (blk_cell BK409.out 19).trans rfl, (blk_cell BK409.out 20).trans rfl⟩ (fun hHeld => ?_)
      clear hK K
      refine norm_ (a' := ?_) ?_ ?_
      rotate_left
      ·show Act.put _ (some 44) _ = _
       simp only [Act.put, List.setIfInBounds_toArray, List.set_cons_zero, List.set_cons_succ, i64_w, i32_w]
       rfl
      refine Gv.pu 39 (some 2) HT_ ?_
      refine done_ (done_of HT_.out (by kernel_rfl)) ?_
      try go_wp2
      go_ret
      exact ⟨Gv.rt, Gv.bw⟩
     ·rw [if_neg c15] at H
      exact absurd H (by simp)
    ·rw [if_neg c13] at H
     exact absurd H (by simp)
   ·rw [if_neg c11] at H
    exact absurd H (by simp)
  ·rw [if_neg c9] at H
   exact absurd H (by simp)
 ·replace c3 := Bool.eq_false_iff.mpr c3
  subst c3
  have H1 : (some (⟨#[]⟩ : ByteArray)) = some r := by rw [if_neg (show ¬ (false = true) by decide)] at H; exact H
  clear H
  have H := H1
  clear H1
  obtain rfl := Option.some.inj H
  go_enter Tryd.func6, Tryd.ntmps6
  go_wp2_with (first | ((with_reducible refine gate_dst (N := 1) rfl ?_); refine box_event ?hg (N := 1) ?hd (cs := #[.int .i64 a0_0, .int .i64 a0_1, .int .i64 a0_2, .int .i64 a0_3, .int .i64 a0_4, .int .i64 a0_5, .int .i64 a0_6, .int .i64 a0_7, .int .i64 a0_8, .int .i64 a0_9, .int .i64 a0_10, .int .i64 a0_11, .int .i64 a0_12, .int .i64 a0_13, .int .i64 a0_14, .int .i64 a0_15, .int .i64 a0_16, .int .i64 a0_17, .int .i64 a0_18, .int .i64 a0_19, .int .i64 a0_20]) (t := 33) ?hr ?_; (case hd => rfl); (case hg => rfl); (case hr => first | (go_simp; done) | (go_simp; rfl)); intro gb409 hg w39 hbox hb; have n0_ := Gv.a0 (below_step Gv.bw hb); have n1_ := Gv.a0 (hbox); have n2_ := Gv.a0 ((Gv.ble hg Gv.bw : w.heap.size ≤ gb409)); have n3_ := Gv.a0 ((Gv.ble hg Gv.bw : w.heap.size ≤ gb409)); clear HB; have HB := n0_; have BK409 := n1_; have GW409 := n2_; have GE409 := n3_; clear n0_ n1_ n2_ n3_; clear hb hbox hg; obtain ⟨hcz40_0, hcz40_1, hcz40_2, hcz40_3, hcz40_4, hcz40_5, hcz40_6, hcz40_7, hcz40_8, hcz40_9, hcz40_10, hcz40_11, hcz40_12, hcz40_13, hcz40_14, hcz40_15, hcz40_16, hcz40_17, hcz40_18, hcz40_19, hcz40_20⟩ := Gv.c21 BK409.out) | ((with_reducible refine gate_store (t := 33) (p := 1) rfl ?_); refine Gv.store_event rfl rfl rfl rfl rfl (Gv.kb BK409.out) (by kernel_rfl) rfl (by simp; and_intros <;> rfl) ?_; intro w39s hbox hoth hbel; have n0_ := Gv.a0 (hbox); have n1_ := Gv.a0 (hbel w Gv.bw GE409.out); clear BK409 HB; have BK409 := n0_; have HB := n1_; clear n0_ n1_ hbox hoth hbel; (try clear hcz40_0 hcz40_1 hcz40_2 hcz40_3 hcz40_4 hcz40_5 hcz40_6 hcz40_7 hcz40_8 hcz40_9 hcz40_10 hcz40_11 hcz40_12 hcz40_13 hcz40_14 hcz40_15 hcz40_16 hcz40_17 hcz40_18 hcz40_19 hcz40_20); obtain ⟨hcz40_0, hcz40_1, hcz40_2, hcz40_3, hcz40_4, hcz40_5, hcz40_6, hcz40_7, hcz40_8, hcz40_9, hcz40_10, hcz40_11, hcz40_12, hcz40_13, hcz40_14, hcz40_15, hcz40_16, hcz40_17, hcz40_18, hcz40_19, hcz40_20⟩ := Gv.c21 BK409.out) | ((with_reducible refine gate_callee (f := 11) rfl ?_); refine goesL_ (some 4) rfl rfl Tryd.func11 (by kernel_rfl) rfl #[.agg #[.int .i64 a0_0, .int .i64 a0_1, .int .i64 a0_2, .int .i64 a0_3, .int .i64 a0_4, .int .i64 a0_5, .int .i64 a0_6, .int .i64 a0_7, .int .i64 a0_8, .int .i64 a0_9, .int .i64 a0_10, .int .i64 a0_11, .int .i64 a0_12, .int .i64 a0_13, .int .i64 a0_14, .int .i64 a0_15, .int .i64 a0_16, .int .i64 a0_17, .int .i64 a0_18, .int .i64 a0_19, .int .i64 a0_20]] rfl Gv.lm ?_; (with_reducible refine (impl_RuleOk.calls k a0_0 a0_1 a0_2 a0_3 a0_4 a0_5 a0_6 a0_7 a0_8 a0_9 a0_10 a0_11 a0_12 a0_13 a0_14 a0_15 a0_16 a0_17 a0_18 a0_19 a0_20 false _ A2.out).mono ?_); rintro e w41 ⟨rfl, hb⟩; refine ⟨_, rfl, ?_⟩; have n0_ := Gv.a0 (Gv.bb BK409.out hb); have n1_ := Gv.a0 (below_step Gv.bw hb); clear BK409; clear HB; have BK409 := n0_; have HB := n1_; clear n0_ n1_; (try clear hb); (try clear hb2); (try clear hk); (try clear hi)) | ((with_reducible refine Gv.gate_load (t := 33) rfl ?_); (try (refine gate_guard (by rfl) ?_; dsimp only)); refine wpList_load_row rfl 33 _ rfl gb409 rfl 33 _ _ _ (by first | exact Gv.kb0 BK409.out | exact Gv.kb1 (Gv.kb0 BK409.out)) Tryd.underlying33 rfl (by kernel_rfl) ?_))
  go_ret
  exact ⟨Gv.rt, Gv.bw⟩

/-! ### laws_FnExactRuleText: function 3 -/
def laws_FnExactRuleText.f (k : Nat) (a0_0 : Int) (a0_1 : Int) (a0_2 : Int) (a0_3 : Int) (a0_4 : Int) (a0_5 : Int) (a0_6 : Int) (a0_7 : Int) (a0_8 : Int) (a0_9 : Int) (a0_10 : Int) (a0_11 : Int) (a0_12 : Int) (a0_13 : Int) (a0_14 : Int) (a0_15 : Int) (a0_16 : Int) (a0_17 : Int) (a0_18 : Int) (a0_19 : Int) (a0_20 : Int) : Option (Bool) := (laws_toRule.f a0_0 a0_1 a0_2 a0_3 a0_4 a0_5 a0_6 a0_7 a0_8 a0_9 a0_10 a0_11 a0_12 a0_13 a0_14 a0_15 a0_16 a0_17 a0_18 a0_19 a0_20).bind fun bt427 => ((spec_RuleText.f k bt427.1 bt427.2.1 bt427.2.2.1 bt427.2.2.2.1 bt427.2.2.2.2.1 bt427.2.2.2.2.2.1 bt427.2.2.2.2.2.2.1 bt427.2.2.2.2.2.2.2.1 bt427.2.2.2.2.2.2.2.2.1 bt427.2.2.2.2.2.2.2.2.2.1 bt427.2.2.2.2.2.2.2.2.2.2.1 bt427.2.2.2.2.2.2.2.2.2.2.2.1 bt427.2.2.2.2.2.2.2.2.2.2.2.2.1 bt427.2.2.2.2.2.2.2.2.2.2.2.2.2.1 bt427.2.2.2.2.2.2.2.2.2.2.2.2.2.2.1 bt427.2.2.2.2.2.2.2.2.2.2.2.2.2.2.2.1 bt427.2.2.2.2.2.2.2.2.2.2.2.2.2.2.2.2.1 bt427.2.2.2.2.2.2.2.2.2.2.2.2.2.2.2.2.2.1 bt427.2.2.2.2.2.2.2.2.2.2.2.2.2.2.2.2.2.2.1 bt427.2.2.2.2.2.2.2.2.2.2.2.2.2.2.2.2.2.2.2.1 bt427.2.2.2.2.2.2.2.2.2.2.2.2.2.2.2.2.2.2.2.2).bind fun t448 => ((laws_toRule.f a0_0 a0_1 a0_2 a0_3 a0_4 a0_5 a0_6 a0_7 a0_8 a0_9 a0_10 a0_11 a0_12 a0_13 a0_14 a0_15 a0_16 a0_17 a0_18 a0_19 a0_20).bind fun bt449 => ((impl_RuleText.f k bt449.1 bt449.2.1 bt449.2.2.1 bt449.2.2.2.1 bt449.2.2.2.2.1 bt449.2.2.2.2.2.1 bt449.2.2.2.2.2.2.1 bt449.2.2.2.2.2.2.2.1 bt449.2.2.2.2.2.2.2.2.1 bt449.2.2.2.2.2.2.2.2.2.1 bt449.2.2.2.2.2.2.2.2.2.2.1 bt449.2.2.2.2.2.2.2.2.2.2.2.1 bt449.2.2.2.2.2.2.2.2.2.2.2.2.1 bt449.2.2.2.2.2.2.2.2.2.2.2.2.2.1 bt449.2.2.2.2.2.2.2.2.2.2.2.2.2.2.1 bt449.2.2.2.2.2.2.2.2.2.2.2.2.2.2.2.1 bt449.2.2.2.2.2.2.2.2.2.2.2.2.2.2.2.2.1 bt449.2.2.2.2.2.2.2.2.2.2.2.2.2.2.2.2.2.1 bt449.2.2.2.2.2.2.2.2.2.2.2.2.2.2.2.2.2.2.1 bt449.2.2.2.2.2.2.2.2.2.2.2.2.2.2.2.2.2.2.2.1 bt449.2.2.2.2.2.2.2.2.2.2.2.2.2.2.2.2.2.2.2.2).bind fun t470 => (if t470.toList = t448.toList then (some true) else (none)))))
theorem laws_FnExactRuleText.mono : ∀ a0 a1 a2 a3 a4 a5 a6 a7 a8 a9 a10 a11 a12 a13 a14 a15 a16 a17 a18 a19 a20 k, LeO (laws_FnExactRuleText.f k a0 a1 a2 a3 a4 a5 a6 a7 a8 a9 a10 a11 a12 a13 a14 a15 a16 a17 a18 a19 a20) (laws_FnExactRuleText.f (k + 1) a0 a1 a2 a3 a4 a5 a6 a7 a8 a9 a10 a11 a12 a13 a14 a15 a16 a17 a18 a19 a20) := by
 intro a0 a1 a2 a3 a4 a5 a6 a7 a8 a9 a10 a11 a12 a13 a14 a15 a16 a17 a18 a19 a20 k
 unfold laws_FnExactRuleText.f
 repeat' first
   | (with_reducible exact impl_RuleText.mono _ _ _ _ _ _ _ _ _ _ _ _ _ _ _ _ _ _ _ _ _ _)
   | (with_reducible exact spec_RuleText.mono _ _ _ _ _ _ _ _ _ _ _ _ _ _ _ _ _ _ _ _ _ _)
   | (with_reducible exact LeO.refl _)
   | (with_reducible exact LeO.none _)
   | (with_reducible refine LeO.ite ?_ ?_)
   | (with_reducible refine LeO.bind ?_ (fun _ => ?_))
   | exact impl_RuleText.mono _ _ _ _ _ _ _ _ _ _ _ _ _ _ _ _ _ _ _ _ _ _
   | exact spec_RuleText.mono _ _ _ _ _ _ _ _ _ _ _ _ _ _ _ _ _ _ _ _ _ _
   | exact LeO.none _
   | refine LeO.ite ?_ ?_
   | refine LeO.bind ?_ (fun _ => ?_)
set_option maxHeartbeats 8000000 in
set_option maxRecDepth 100000 in
theorem laws_FnExactRuleText.calls (k : Nat) (a0_0 : Int) (a0_1 : Int) (a0_2 : Int) (a0_3 : Int) (a0_4 : Int) (a0_5 : Int) (a0_6 : Int) (a0_7 : Int) (a0_8 : Int) (a0_9 : Int) (a0_10 : Int) (a0_11 : Int) (a0_12 : Int) (a0_13 : Int) (a0_14 : Int) (a0_15 : Int) (a0_16 : Int) (a0_17 : Int) (a0_18 : Int) (a0_19 : Int) (a0_20 : Int) (r : Bool) (w : World) (hE : La.Env w) (h : laws_FnExactRuleText.f k a0_0 a0_1 a0_2 a0_3 a0_4 a0_5 a0_6 a0_7 a0_8 a0_9 a0_10 a0_11 a0_12 a0_13 a0_14 a0_15 a0_16 a0_17 a0_18 a0_19 a0_20 = some r) :
  Calls Tryd.prog 3 #[.agg #[.int .i64 a0_0, .int .i64 a0_1, .int .i64 a0_2, .int .i64 a0_3, .int .i64 a0_4, .int .i64 a0_5, .int .i64 a0_6, .int .i64 a0_7, .int .i64 a0_8, .int .i64 a0_9, .int .i64 a0_10, .int .i64 a0_11, .int .i64 a0_12, .int .i64 a0_13, .int .i64 a0_14, .int .i64 a0_15, .int .i64 a0_16, .int .i64 a0_17, .int .i64 a0_18, .int .i64 a0_19, .int .i64 a0_20]] w fun e w' => e = .returned (.bool r) ∧ Below w.heap.size w w' := by
 have hu27 := Tryd.underlying27
 replace hE := Aside0.mk hE
 have HB := Gv.a0 (Below.refl w.heap.size w)
 have H : ((laws_toRule.f a0_0 a0_1 a0_2 a0_3 a0_4 a0_5 a0_6 a0_7 a0_8 a0_9 a0_10 a0_11 a0_12 a0_13 a0_14 a0_15 a0_16 a0_17 a0_18 a0_19 a0_20).bind fun bt427 => ((spec_RuleText.f k bt427.1 bt427.2.1 bt427.2.2.1 bt427.2.2.2.1 bt427.2.2.2.2.1 bt427.2.2.2.2.2.1 bt427.2.2.2.2.2.2.1 bt427.2.2.2.2.2.2.2.1 bt427.2.2.2.2.2.2.2.2.1 bt427.2.2.2.2.2.2.2.2.2.1 bt427.2.2.2.2.2.2.2.2.2.2.1 bt427.2.2.2.2.2.2.2.2.2.2.2.1 bt427.2.2.2.2.2.2.2.2.2.2.2.2.1 bt427.2.2.2.2.2.2.2.2.2.2.2.2.2.1 bt427.2.2.2.2.2.2.2.2.2.2.2.2.2.2.1 bt427.2.2.2.2.2.2.2.2.2.2.2.2.2.2.2.1 bt427.2.2.2.2.2.2.2.2.2.2.2.2.2.2.2.2.1 bt427.2.2.2.2.2.2.2.2.2.2.2.2.2.2.2.2.2.1 bt427.2.2.2.2.2.2.2.2.2.2.2.2.2.2.2.2.2.2.1 bt427.2.2.2.2.2.2.2.2.2.2.2.2.2.2.2.2.2.2.2.1 bt427.2.2.2.2.2.2.2.2.2.2.2.2.2.2.2.2.2.2.2.2).bind fun t448 => ((laws_toRule.f a0_0 a0_1 a0_2 a0_3 a0_4 a0_5 a0_6 a0_7 a0_8 a0_9 a0_10 a0_11 a0_12 a0_13 a0_14 a0_15 a0_16 a0_17 a0_18 a0_19 a0_20).bind fun bt449 => ((impl_RuleText.f k bt449.1 bt449.2.1 bt449.2.2.1 bt449.2.2.2.1 bt449.2.2.2.2.1 bt449.2.2.2.2.2.1 bt449.2.2.2.2.2.2.1 bt449.2.2.2.2.2.2.2.1 bt449.2.2.2.2.2.2.2.2.1 bt449.2.2.2.2.2.2.2.2.2.1 bt449.2.2.2.2.2.2.2.2.2.2.1 bt449.2.2.2.2.2.2.2.2.2.2.2.1 bt449.2.2.2.2.2.2.2.2.2.2.2.2.1 bt449.2.2.2.2.2.2.2.2.2.2.2.2.2.1 bt449.2.2.2.2.2.2.2.2.2.2.2.2.2.2.1 bt449.2.2.2.2.2.2.2.2.2.2.2.2.2.2.2.1 bt449.2.2.2.2.2.2.2.2.2.2.2.2.2.2.2.2.1 bt449.2.2.2.2.2.2.2.2.2.2.2.2.2.2.2.2.2.1 bt449.2.2.2.2.2.2.2.2.2.2.2.2.2.2.2.2.2.2.1 bt449.2.2.2.2.2.2.2.2.2.2.2.2.2.2.2.2.2.2.2.1 bt449.2.2.2.2.2.2.2.2.2.2.2.2.2.2.2.2.2.2.2.2).bind fun t470 => (if t470.toList = t448.toList then (some true) else (none)))))) = some r := h
 clear h
 replace H := Option.bind_eq_some_iff.mp H
 obtain ⟨⟨t427, t428, t429, t430, t431, t432, t433, t434, t435, t436, t437, t438, t439, t440, t441, t442, t443, t444, t445, t446, t447⟩, A20, H⟩ := H
 replace H : ((spec_RuleText.f k t427 t428 t429 t430 t431 t432 t433 t434 t435 t436 t437 t438 t439 t440 t441 t442 t443 t444 t445 t446 t447).bind fun t448 => ((laws_toRule.f a0_0 a0_1 a0_2 a0_3 a0_4 a0_5 a0_6 a0_7 a0_8 a0_9 a0_10 a0_11 a0_12 a0_13 a0_14 a0_15 a0_16 a0_17 a0_18 a0_19 a0_20).bind fun bt449 => ((impl_RuleText.f k bt449.1 bt449.2.1 bt449.2.2.1 bt449.2.2.2.1 bt449.2.2.2.2.1 bt449.2.2.2.2.2.1 bt449.2.2.2.2.2.2.1 bt449.2.2.2.2.2.2.2.1 bt449.2.2.2.2.2.2.2.2.1 bt449.2.2.2.2.2.2.2.2.2.1 bt449.2.2.2.2.2.2.2.2.2.2.1 bt449.2.2.2.2.2.2.2.2.2.2.2.1 bt449.2.2.2.2.2.2.2.2.2.2.2.2.1 bt449.2.2.2.2.2.2.2.2.2.2.2.2.2.1 bt449.2.2.2.2.2.2.2.2.2.2.2.2.2.2.1 bt449.2.2.2.2.2.2.2.2.2.2.2.2.2.2.2.1 bt449.2.2.2.2.2.2.2.2.2.2.2.2.2.2.2.2.1 bt449.2.2.2.2.2.2.2.2.2.2.2.2.2.2.2.2.2.1 bt449.2.2.2.2.2.2.2.2.2.2.2.2.2.2.2.2.2.2.1 bt449.2.2.2.2.2.2.2.2.2.2.2.2.2.2.2.2.2.2.2.1 bt449.2.2.2.2.2.2.2.2.2.2.2.2.2.2.2.2.2.2.2.2).bind fun t470 => (if t470.toList = t448.toList then (some true) else (none))))) = some r := H
 have A2 := Gv.a0 A20
 clear A20
 replace H := Option.bind_eq_some_iff.mp H
 obtain ⟨t448, A30, H⟩ := H
 replace H : ((laws_toRule.f a0_0 a0_1 a0_2 a0_3 a0_4 a0_5 a0_6 a0_7 a0_8 a0_9 a0_10 a0_11 a0_12 a0_13 a0_14 a0_15 a0_16 a0_17 a0_18 a0_19 a0_20).bind fun bt449 => ((impl_RuleText.f k bt449.1 bt449.2.1 bt449.2.2.1 bt449.2.2.2.1 bt449.2.2.2.2.1 bt449.2.2.2.2.2.1 bt449.2.2.2.2.2.2.1 bt449.2.2.2.2.2.2.2.1 bt449.2.2.2.2.2.2.2.2.1 bt449.2.2.2.2.2.2.2.2.2.1 bt449.2.2.2.2.2.2.2.2.2.2.1 bt449.2.2.2.2.2.2.2.2.2.2.2.1 bt449.2.2.2.2.2.2.2.2.2.2.2.2.1 bt449.2.2.2.2.2.2.2.2.2.2.2.2.2.1 bt449.2.2.2.2.2.2.2.2.2.2.2.2.2.2.1 bt449.2.2.2.2.2.2.2.2.2.2.2.2.2.2.2.1 bt449.2.2.2.2.2.2.2.2.2.2.2.2.2.2.2.2.1 bt449.2.2.2.2.2.2.2.2.2.2.2.2.2.2.2.2.2.1 bt449.2.2.2.2.2.2.2.2.2.2.2.2.2.2.2.2.2.2.1 bt449.2.2.2.2.2.2.2.2.2.2.2.2.2.2.2.2.2.2.2.1 bt449.2.2.2.2.2.2.2.2.2.2.2.2.2.2.2.2.2.2.2.2).bind fun t470 => (if t470.toList = t448.toList then (some true) else (none)))) = some r := H
 have A3 := Gv.a0 A30
 clear A30
 replace H := Option.bind_eq_some_iff.mp H
 obtain ⟨⟨t449, t450, t451, t452, t453, t454, t455, t456, t457, t458, t459, t460, t461, t462, t463, t464, t465, t466, t467, t468, t469⟩, A40, H⟩ := H
 replace H : ((impl_RuleText.f k t449 t450 t451 t452 t453 t454 t455 t456 t457 t458 t459 t460 t461 t462 t463 t464 t465 t466 t467 t468 t469).bind fun t470 => (if t470.toList = t448.toList then (some true) else (none))) = some r := H
 have A4 := Gv.a0 A40
 clear A40
 replace H := Option.bind_eq_some_iff.mp H
 obtain ⟨t470, A50, H⟩ := H
 replace H : (if t470.toList = t448.toList then (some true) else (none)) = some r := H
 have A5 := Gv.a0 A50
 clear A50
 by_cases c6 : t470.toList = t448.toList
 ·rw [if_pos c6] at H
  have c6b0 : (t470.toList == t448.toList) = true := beq_iff_eq.mpr c6
  have c6b1 : (t470.toList != t448.toList) = false := bne_eq_false_iff_eq.mpr c6
  clear c6
  obtain rfl := Option.some.inj H
  go_enter Tryd.func3, Tryd.ntmps3
  go_wp2_with (first | ((with_reducible refine gate_dst (N := 1) rfl ?_); refine box_event ?hg (N := 1) ?hd (cs := #[.int .i64 a0_0, .int .i64 a0_1, .int .i64 a0_2, .int .i64 a0_3, .int .i64 a0_4, .int .i64 a0_5, .int .i64 a0_6, .int .i64 a0_7, .int .i64 a0_8, .int .i64 a0_9, .int .i64 a0_10, .int .i64 a0_11, .int .i64 a0_12, .int .i64 a0_13, .int .i64 a0_14, .int .i64 a0_15, .int .i64 a0_16, .int .i64 a0_17, .int .i64 a0_18, .int .i64 a0_19, .int .i64 a0_20]) (t := 27) ?hr ?_; (case hd => rfl); (case hg => rfl); (case hr => first | (go_simp; done) | (go_simp; rfl)); intro gb426 hg w7 hbox hb; have n0_ := Gv.a0 (below_step Gv.bw hb); have n1_ := Gv.a0 (hbox); have n2_ := Gv.a0 ((Gv.ble hg Gv.bw : w.heap.size ≤ gb426)); have n3_ := Gv.a0 ((Gv.ble hg Gv.bw : w.heap.size ≤ gb426)); clear HB; have HB := n0_; have BK426 := n1_; have GW426 := n2_; have GE426 := n3_; clear n0_ n1_ n2_ n3_; clear hb hbox hg; obtain ⟨hcz8_0, hcz8_1, hcz8_2, hcz8_3, hcz8_4, hcz8_5, hcz8_6, hcz8_7, hcz8_8, hcz8_9, hcz8_10, hcz8_11, hcz8_12, hcz8_13, hcz8_14, hcz8_15, hcz8_16, hcz8_17, hcz8_18, hcz8_19, hcz8_20⟩ := Gv.c21 BK426.out) | ((with_reducible refine gate_store (t := 27) (p := 1) rfl ?_); refine Gv.store_event rfl rfl rfl rfl rfl (Gv.kb BK426.out) (by kernel_rfl) rfl (by simp; and_intros <;> rfl) ?_; intro w7s hbox hoth hbel; have n0_ := Gv.a0 (hbox); have n1_ := Gv.a0 (hbel w Gv.bw GE426.out); clear BK426 HB; have BK426 := n0_; have HB := n1_; clear n0_ n1_ hbox hoth hbel; (try clear hcz8_0 hcz8_1 hcz8_2 hcz8_3 hcz8_4 hcz8_5 hcz8_6 hcz8_7 hcz8_8 hcz8_9 hcz8_10 hcz8_11 hcz8_12 hcz8_13 hcz8_14 hcz8_15 hcz8_16 hcz8_17 hcz8_18 hcz8_19 hcz8_20); obtain ⟨hcz8_0, hcz8_1, hcz8_2, hcz8_3, hcz8_4, hcz8_5, hcz8_6, hcz8_7, hcz8_8, hcz8_9, hcz8_10, hcz8_11, hcz8_12, hcz8_13, hcz8_14, hcz8_15, hcz8_16, hcz8_17, hcz8_18, hcz8_19, hcz8_20⟩ := Gv.c21 BK426.out) | ((with_reducible refine gate_callee (f := 5) rfl ?_); refine goesL_ (some 6) rfl rfl Tryd.func5 (by kernel_rfl) rfl #[.agg #[.int .i64 a0_0, .int .i64 a0_1, .int .i64 a0_2, .int .i64 a0_3, .int .i64 a0_4, .int .i64 a0_5, .int .i64 a0_6, .int .i64 a0_7, .int .i64 a0_8, .int .i64 a0_9, .int .i64 a0_10, .int .i64 a0_11, .int .i64 a0_12, .int .i64 a0_13, .int .i64 a0_14, .int .i64 a0_15, .int .i64 a0_16, .int .i64 a0_17, .int .i64 a0_18, .int .i64 a0_19, .int .i64 a0_20]] rfl Gv.lm ?_; (with_reducible refine (laws_toRule.calls a0_0 a0_1 a0_2 a0_3 a0_4 a0_5 a0_6 a0_7 a0_8 a0_9 a0_10 a0_11 a0_12 a0_13 a0_14 a0_15 a0_16 a0_17 a0_18 a0_19 a0_20 t427 t428 t429 t430 t431 t432 t433 t434 t435 t436 t437 t438 t439 t440 t441 t442 t443 t444 t445 t446 t447 _ A2.out).mono ?_); rintro e w9 ⟨rfl, hb⟩; refine ⟨_, rfl, ?_⟩; have n0_ := Gv.a0 (Gv.bb BK426.out hb); have n1_ := Gv.a0 (below_step Gv.bw hb); clear BK426; clear HB; have BK426 := n0_; have HB := n1_; clear n0_ n1_; (try clear hb); (try clear hb2); (try clear hk); (try clear hi)) | ((with_reducible refine gate_callee (f := 4) rfl ?_); refine goesL_ (some 7) rfl rfl Tryd.func4 (by kernel_rfl) rfl #[.agg #[.int .i64 t427, .int .i64 t428, .int .i64 t429, .int .i64 t430, .int .i64 t431, .int .i64 t432, .int .i64 t433, .int .i64 t434, .int .i64 t435, .int .i64 t436, .int .i64 t437, .int .i64 t438, .int .i64 t439, .int .i64 t440, .int .i64 t441, .int .i64 t442, .int .i64 t443, .int .i64 t444, .int .i64 t445, .int .i64 t446, .int .i64 t447]] rfl Gv.lm ?_; (with_reducible refine (spec_RuleText.calls k t427 t428 t429 t430 t431 t432 t433 t434 t435 t436 t437 t438 t439 t440 t441 t442 t443 t444 t445 t446 t447 t448 _ A3.out).mono ?_); rintro e w10 ⟨rfl, hb⟩; refine ⟨_, rfl, ?_⟩; have n0_ := Gv.a0 (Gv.bb BK426.out hb); have n1_ := Gv.a0 (below_step Gv.bw hb); clear BK426; clear HB; have BK426 := n0_; have HB := n1_; clear n0_ n1_; (try clear hb); (try clear hb2); (try clear hk); (try clear hi); obtain ⟨hcz11_0, hcz11_1, hcz11_2, hcz11_3, hcz11_4, hcz11_5, hcz11_6, hcz11_7, hcz11_8, hcz11_9, hcz11_10, hcz11_11, hcz11_12, hcz11_13, hcz11_14, hcz11_15, hcz11_16, hcz11_17, hcz11_18, hcz11_19, hcz11_20⟩ := Gv.c21 BK426.out) | ((with_reducible refine gate_callee (f := 5) rfl ?_); refine goesL_ (some 9) rfl rfl Tryd.func5 (by kernel_rfl) rfl #[.agg #[.int .i64 a0_0, .int .i64 a0_1, .int .i64 a0_2, .int .i64 a0_3, .int .i64 a0_4, .int .i64 a0_5, .int .i64 a0_6, .int .i64 a0_7, .int .i64 a0_8, .int .i64 a0_9, .int .i64 a0_10, .int .i64 a0_11, .int .i64 a0_12, .int .i64 a0_13, .int .i64 a0_14, .int .i64 a0_15, .int .i64 a0_16, .int .i64 a0_17, .int .i64 a0_18, .int .i64 a0_19, .int .i64 a0_20]] rfl Gv.lm ?_; (with_reducible refine (laws_toRule.calls a0_0 a0_1 a0_2 a0_3 a0_4 a0_5 a0_6 a0_7 a0_8 a0_9 a0_10 a0_11 a0_12 a0_13 a0_14 a0_15 a0_16 a0_17 a0_18 a0_19 a0_20 t449 t450 t451 t452 t453 t454 t455 t456 t457 t458 t459 t460 t461 t462 t463 t464 t465 t466 t467 t468 t469 _ A4.out).mono ?_); rintro e w12 ⟨rfl, hb⟩; refine ⟨_, rfl, ?_⟩; have n0_ := Gv.a0 (Gv.bb BK426.out hb); have n1_ := Gv.a0 (below_step Gv.bw hb); clear BK426; clear HB; have BK426 := n0_; have HB := n1_; clear n0_ n1_; (try clear hb); (try clear hb2); (try clear hk); (try clear hi)) | ((with_reducible refine gate_callee (f := 6) rfl ?_); refine goesL_ (some 10) rfl rfl Tryd.func6 (by kernel_rfl) rfl #[.agg #[.int .i64 t449, .int .i64 t450, .int .i64 t451, .int .i64 t452, .int .i64 t453, .int .i64 t454, .int .i64 t455, .int .i64 t456, .int .i64 t457, .int .i64 t458, .int .i64 t459, .int .i64 t460, .int .i64 t461, .int .i64 t462, .int .i64 t463, .int .i64 t464, .int .i64 t465, .int .i64 t466, .int .i64 t467, .int .i64 t468, .int .i64 t469]] rfl Gv.lm ?_; (with_reducible refine (impl_RuleText.calls k t449 t450 t451 t452 t453 t454 t455 t456 t457 t458 t459 t460 t461 t462 t463 t464 t465 t466 t467 t468 t469 t470 _ (hE.out.below Gv.bw) A5.out).mono ?_); rintro e w13 ⟨rfl, hb⟩; refine ⟨_, rfl, ?_⟩; have n0_ := Gv.a0 (Gv.bb BK426.out hb); have n1_ := Gv.a0 (below_step Gv.bw hb); clear BK426; clear HB; have BK426 := n0_; have HB := n1_; clear n0_ n1_; (try clear hb); (try clear hb2); (try clear hk); (try clear hi)) | ((with_reducible refine Gv.gate_load (t := 27) rfl ?_); (try (refine gate_guard (by rfl) ?_; dsimp only)); refine wpList_load_row rfl 27 _ rfl gb426 rfl 27 _ _ _ (by first | exact Gv.kb0 BK426.out | exact Gv.kb1 (Gv.kb0 BK426.out)) Tryd.underlying27 rfl (by kernel_rfl) ?_))
  go_ret
  exact ⟨Gv.rt, Gv.bw⟩
 ·rw [if_neg c6] at H
  exact absurd H (by simp)

end Go.Proofs.YtbihbbkdciebhaaDoor.PRt
