/- Plain Lean functions of a law's Go functions, their contracts, by a program of this session (wip/pr.py over the kit's print). -/
import Derived.Test.YtfnpodebjejhpaaPHax0
import Derived.Test.YtfnpodebjejhpaaPHax1
import Derived.Test.YtfnpodebjejhpaaPHax2
namespace Go.Proofs.Ytfnpodebjejhpaa.PHa
open Go.RowKit Go.Proofs.YtfnpodebjejhpaaW.PrintWords Go.Proofs.YtfnpodebjejhpaaW.PrintLast Go.Proofs.YtfnpodebjejhpaaW.PrintMore
attribute [local go_sem] max2_int min2_int max_two min_two max_three min_three max_four min_four   -- for this text's walks alone
set_option linter.unusedVariables false
set_option linter.unusedSimpArgs false

/-! ### impl_hashOf: function 47 -/
def impl_hashOf.l0 : Nat → Int → List Int → Int → Int → Option (Int)
 | 0, _, _, _, _ => none
 | k + 1, x6, x42, x43, x44 => if x44 < x43 then (if 0 ≤ x44 then (if x44 < (x42.length : Int) then (impl_hashOf.l0 k (Int.tmod (wrap64 ((Go.bits .xor .i64 x6 (wrap64 (rd x42 x44))) * 16777619)) 4294967296) x42 x43 (wrap64 (x44 + 1))) else (none)) else (none)) else (some (Go.bits .xor .i64 x6 (wrap64 (Int.tdiv x6 65536))))
def impl_hashOf.f (k : Nat) (a0 : Int) (a1_0 : Int) (a1_1 : Int) (a1_2 : Int) (a1_3 : Int) (a1_4 : Int) (a1_5 : Int) (a1_6 : Int) (a1_7 : Int) (a1_8 : Int) (a1_9 : Int) (a1_10 : Int) (a1_11 : Int) (a1_12 : Int) (a1_13 : Int) : Option (Int) := (impl_AddrBytes.f k a1_1 a1_2 a1_3 a1_4 a1_5).bind fun t300 => ((impl_AddrBytes.f k a1_6 a1_7 a1_8 a1_9 a1_10).bind fun t303 => ((impl_Put16.f k a1_12).bind fun t309 => ((impl_Put16.f k a1_13).bind fun t312 => ((slices_Concat_byte_byte.f k (([(([(a1_0) % 256, (a1_1) % 256] : List Int)), t300, t303, (([(a1_11) % 256] : List Int)), t309, t312] : List (List Int)))).bind fun t318 => (impl_hashOf.l0 k a0 t318 (t318.length : Int) 0)))))
theorem impl_hashOf.mono_l : ∀ k, (∀ y0 y1 y2 y3, LeO (impl_hashOf.l0 k y0 y1 y2 y3) (impl_hashOf.l0 (k + 1) y0 y1 y2 y3))
 | 0 => fun _ _ _ _ r h => by simp [impl_hashOf.l0] at h
 | k + 1 => by
  have ih0 := impl_hashOf.mono_l k
  ·intro y0 y1 y2 y3
   unfold impl_hashOf.l0
   repeat' first
   | (with_reducible exact ih0 _ _ _ _)
   | (with_reducible exact impl_AddrBytes.mono _ _ _ _ _ _)
   | (with_reducible exact impl_Put16.mono _ _)
   | (with_reducible exact slices_Concat_byte_byte.mono _ _)
   | (with_reducible exact LeO.refl _)
   | (with_reducible exact LeO.none _)
   | (with_reducible refine LeO.ite ?_ ?_)
   | (with_reducible refine LeO.bind ?_ (fun _ => ?_))
   | exact ih0 _ _ _ _
   | exact impl_AddrBytes.mono _ _ _ _ _ _
   | exact impl_Put16.mono _ _
   | exact slices_Concat_byte_byte.mono _ _
   | exact LeO.none _
   | refine LeO.ite ?_ ?_
   | refine LeO.bind ?_ (fun _ => ?_)
theorem impl_hashOf.mono : ∀ a0 a1 a2 a3 a4 a5 a6 a7 a8 a9 a10 a11 a12 a13 a14 k, LeO (impl_hashOf.f k a0 a1 a2 a3 a4 a5 a6 a7 a8 a9 a10 a11 a12 a13 a14) (impl_hashOf.f (k + 1) a0 a1 a2 a3 a4 a5 a6 a7 a8 a9 a10 a11 a12 a13 a14) := by
 intro a0 a1 a2 a3 a4 a5 a6 a7 a8 a9 a10 a11 a12 a13 a14 k
 have ih0 := impl_hashOf.mono_l k
 unfold impl_hashOf.f
 repeat' first
   | (with_reducible exact ih0 _ _ _ _)
   | (with_reducible exact impl_AddrBytes.mono _ _ _ _ _ _)
   | (with_reducible exact impl_Put16.mono _ _)
   | (with_reducible exact slices_Concat_byte_byte.mono _ _)
   | (with_reducible exact LeO.refl _)
   | (with_reducible exact LeO.none _)
   | (with_reducible refine LeO.ite ?_ ?_)
   | (with_reducible refine LeO.bind ?_ (fun _ => ?_))
   | exact ih0 _ _ _ _
   | exact impl_AddrBytes.mono _ _ _ _ _ _
   | exact impl_Put16.mono _ _
   | exact slices_Concat_byte_byte.mono _ _
   | exact LeO.none _
   | refine LeO.ite ?_ ?_
   | refine LeO.bind ?_ (fun _ => ?_)
def impl_hashOf.T1 : Bool × List (List Nat × List Nat) := (true, [([], []), ([0], [0]), ([1], [1]), ([], []), ([3], [3]), ([4], [4]), ([5], [5]), ([6], [6]), ([2, 7], [2, 7]), ([], []), ([9], [9]), ([10], [10]), ([11], [11]), ([], []), ([13], [13]), ([14], [14]), ([15, 12], [15]), ([], []), ([17], [17]), ([18], [18]), ([19], [19]), ([20], [20]), ([], []), ([22], [22]), ([23], [23]), ([24, 16], [24]), ([], []), ([26], [26]), ([27], [27]), ([28, 25], [28]), ([8, 12, 16, 21, 25, 29], [8, 12, 16, 21, 25, 29]), ([30, 29], [30]), ([31, 31, 0, 1, 2, 3, 4, 5, 6, 7, 8, 9, 10, 11, 12, 13, 14, 15, 16, 17, 18, 19, 20, 21, 22, 23, 24, 25, 26, 27, 28, 29, 30, 31], [31])])
def impl_hashOf.B1 : List Nat := [0, 1, 3, 0, 8, 24, 56, 120, 255, 0, 512, 1536, 3584, 0, 8192, 24576, 65024, 0, 131072, 393216, 917504, 1966080, 0, 4194304, 12582912, 29490688, 0, 67108864, 201326592, 532807168, 1073741823, 2147483647, 4294967295]
theorem impl_hashOf.tab1 : rtab .any (opsOf Try.f47 1) = impl_hashOf.T1 := by kernel_rfl
theorem impl_hashOf.bits1 : waitsOk impl_hashOf.T1.2 impl_hashOf.B1 = true := by kernel_rfl
set_option maxHeartbeats 8000000 in
set_option maxRecDepth 100000 in
theorem impl_hashOf.calls (k : Nat) (a0 : Int) (a1_0 : Int) (a1_1 : Int) (a1_2 : Int) (a1_3 : Int) (a1_4 : Int) (a1_5 : Int) (a1_6 : Int) (a1_7 : Int) (a1_8 : Int) (a1_9 : Int) (a1_10 : Int) (a1_11 : Int) (a1_12 : Int) (a1_13 : Int) (r : Int) (w : World) (h : impl_hashOf.f k a0 a1_0 a1_1 a1_2 a1_3 a1_4 a1_5 a1_6 a1_7 a1_8 a1_9 a1_10 a1_11 a1_12 a1_13 = some r) :
  Calls Try.prog 47 #[.int .i64 a0, .agg #[.int .i64 a1_0, .int .i64 a1_1, .int .i64 a1_2, .int .i64 a1_3, .int .i64 a1_4, .int .i64 a1_5, .int .i64 a1_6, .int .i64 a1_7, .int .i64 a1_8, .int .i64 a1_9, .int .i64 a1_10, .int .i64 a1_11, .int .i64 a1_12, .int .i64 a1_13]] w fun e w' => e = .returned (.int .i64 r) ∧ Below w.heap.size w w' := by
 have hu33 := Try.underlying33
 have hu29 := Try.underlying29
 have HB := Gv.a0 (Below.refl w.heap.size w)
 have H : ((impl_AddrBytes.f k a1_1 a1_2 a1_3 a1_4 a1_5).bind fun t300 => ((impl_AddrBytes.f k a1_6 a1_7 a1_8 a1_9 a1_10).bind fun t303 => ((impl_Put16.f k a1_12).bind fun t309 => ((impl_Put16.f k a1_13).bind fun t312 => ((slices_Concat_byte_byte.f k (([(([(a1_0) % 256, (a1_1) % 256] : List Int)), t300, t303, (([(a1_11) % 256] : List Int)), t309, t312] : List (List Int)))).bind fun t318 => (impl_hashOf.l0 k a0 t318 (t318.length : Int) 0)))))) = some r := h
 clear h
 obtain ⟨y297, hy297⟩ : ∃ y_ : List Int, y_ = (([(a1_0) % 256, (a1_1) % 256] : List Int)) := ⟨_, rfl⟩
 replace H : ((impl_AddrBytes.f k a1_1 a1_2 a1_3 a1_4 a1_5).bind fun t300 => ((impl_AddrBytes.f k a1_6 a1_7 a1_8 a1_9 a1_10).bind fun t303 => ((impl_Put16.f k a1_12).bind fun t309 => ((impl_Put16.f k a1_13).bind fun t312 => ((slices_Concat_byte_byte.f k (([y297, t300, t303, (([(a1_11) % 256] : List Int)), t309, t312] : List (List Int)))).bind fun t318 => (impl_hashOf.l0 k a0 t318 (t318.length : Int) 0)))))) = some r := by first | (rw [hy297]; with_reducible exact H) | (have H2_ := (Option.bind_some _ _).symm.trans H; rw [hy297]; with_reducible exact H2_) | (have H2_ := (Option.bind_some _ _).symm.trans H; with_reducible exact H2_) | with_reducible exact H | (rw [hy297]; exact H) | exact H
 have Ny297 := Gv.a0 hy297
 clear hy297
 replace H := Option.bind_eq_some_iff.mp H
 obtain ⟨t300, A30, H⟩ := H
 replace H : ((impl_AddrBytes.f k a1_6 a1_7 a1_8 a1_9 a1_10).bind fun t303 => ((impl_Put16.f k a1_12).bind fun t309 => ((impl_Put16.f k a1_13).bind fun t312 => ((slices_Concat_byte_byte.f k (([y297, t300, t303, (([(a1_11) % 256] : List Int)), t309, t312] : List (List Int)))).bind fun t318 => (impl_hashOf.l0 k a0 t318 (t318.length : Int) 0))))) = some r := H
 have A3 := Gv.a0 A30
 clear A30
 replace H := Option.bind_eq_some_iff.mp H
 obtain ⟨t303, A40, H⟩ := H
 replace H : ((impl_Put16.f k a1_12).bind fun t309 => ((impl_Put16.f k a1_13).bind fun t312 => ((slices_Concat_byte_byte.f k (([y297, t300, t303, (([(a1_11) % 256] : List Int)), t309, t312] : List (List Int)))).bind fun t318 => (impl_hashOf.l0 k a0 t318 (t318.length : Int) 0)))) = some r := H
 have A4 := Gv.a0 A40
 clear A40
 obtain ⟨y306, hy306⟩ : ∃ y_ : List Int, y_ = (([(a1_11) % 256] : List Int)) := ⟨_, rfl⟩
 replace H : ((impl_Put16.f k a1_12).bind fun t309 => ((impl_Put16.f k a1_13).bind fun t312 => ((slices_Concat_byte_byte.f k (([y297, t300, t303, y306, t309, t312] : List (List Int)))).bind fun t318 => (impl_hashOf.l0 k a0 t318 (t318.length : Int) 0)))) = some r := by first | (rw [hy306]; with_reducible exact H) | (have H2_ := (Option.bind_some _ _).symm.trans H; rw [hy306]; with_reducible exact H2_) | (have H2_ := (Option.bind_some _ _).symm.trans H; with_reducible exact H2_) | with_reducible exact H | (rw [hy306]; exact H) | exact H
 have Ny306 := Gv.a0 hy306
 clear hy306
 replace H := Option.bind_eq_some_iff.mp H
 obtain ⟨t309, A50, H⟩ := H
 replace H : ((impl_Put16.f k a1_13).bind fun t312 => ((slices_Concat_byte_byte.f k (([y297, t300, t303, y306, t309, t312] : List (List Int)))).bind fun t318 => (impl_hashOf.l0 k a0 t318 (t318.length : Int) 0))) = some r := H
 have A5 := Gv.a0 A50
 clear A50
 replace H := Option.bind_eq_some_iff.mp H
 obtain ⟨t312, A60, H⟩ := H
 replace H : ((slices_Concat_byte_byte.f k (([y297, t300, t303, y306, t309, t312] : List (List Int)))).bind fun t318 => (impl_hashOf.l0 k a0 t318 (t318.length : Int) 0)) = some r := H
 have A6 := Gv.a0 A60
 clear A60
 obtain ⟨y315, hy315⟩ : ∃ y_ : List (List Int), y_ = (([y297, t300, t303, y306, t309, t312] : List (List Int))) := ⟨_, rfl⟩
 replace H : ((slices_Concat_byte_byte.f k y315).bind fun t318 => (impl_hashOf.l0 k a0 t318 (t318.length : Int) 0)) = some r := by first | (rw [hy315]; with_reducible exact H) | (have H2_ := (Option.bind_some _ _).symm.trans H; rw [hy315]; with_reducible exact H2_) | (have H2_ := (Option.bind_some _ _).symm.trans H; with_reducible exact H2_) | with_reducible exact H | (rw [hy315]; exact H) | exact H
 have Ny315 := Gv.a0 hy315
 clear hy315
 replace H := Option.bind_eq_some_iff.mp H
 obtain ⟨t318, A70, H⟩ := H
 replace H : (impl_hashOf.l0 k a0 t318 (t318.length : Int) 0) = some r := H
 have A7 := Gv.a0 A70
 clear A70
 have H' := Gv.a0 H
 clear H
 go_enter Try.func47, Try.ntmps47
 try go_wp2_with (first | ((with_reducible refine gate_dst (N := 3) rfl ?_); refine box_event ?hg (N := 3) ?hd (cs := #[.int .i64 a1_0, .int .i64 a1_1, .int .i64 a1_2, .int .i64 a1_3, .int .i64 a1_4, .int .i64 a1_5, .int .i64 a1_6, .int .i64 a1_7, .int .i64 a1_8, .int .i64 a1_9, .int .i64 a1_10, .int .i64 a1_11, .int .i64 a1_12, .int .i64 a1_13]) (t := 33) ?hr ?_; (case hd => rfl); (case hg => rfl); (case hr => first | (go_simp; done) | (go_simp; rfl)); intro gb296 hg w8 hbox hb; have n0_ := Gv.a0 (below_step Gv.bw hb); have n1_ := Gv.a0 (hbox); have n2_ := Gv.a0 ((by rw [hg]; exact (below_size Gv.bw) : w.heap.size ≤ gb296)); have n3_ := Gv.a0 ((by rw [hg]; exact (below_size Gv.bw) : w.heap.size ≤ gb296)); clear HB; have HB := n0_; have BK296 := n1_; have GW296 := n2_; have GE296 := n3_; clear n0_ n1_ n2_ n3_; clear hb hbox hg))
 have n0_ := Gv.a0 (blk_drew BK296.out)
 have n1_ := Gv.a0 (below_drew1 HB.out)
 clear BK296
 clear HB
 have BK296 := n0_
 have HB := n1_
 clear n0_ n1_
 refine start_ (n := 33) (S := fun w' => True) (ds := []) #[false, false, false, false, false, false, false, false, false, false, false, false, false, false, false, false, false, false, false, false, false, false, false, false, false, false, false, false, false, false, false, false, false] (by kernel_rfl) rfl rfl trivial (fun hHeld => ?_); refine with_tabW impl_hashOf.tab1 impl_hashOf.bits1 (fun HT_ HW_ => ?_)
 generalize w8.drew = w9 at BK296 HB hHeld ⊢
 refine pure_ (i := 0) (N := some 9) (v := ?_) (a' := ?_) #[true, false, false, false, false, false, false, false, false, false, false, false, false, false, false, false, false, false, false, false, false, false, false, false, false, false, false, false, false, false, false, false, false] rfl rfl (any_of HT_.out (by kernel_rfl)) (fun _ _ _ h => h) (Or.inl ⟨by rfl, ?_⟩) ?_ ?_
 rotate_left
 ·intro w'
  go_simp
  with_reducible rfl
 rotate_left
 ·simp only [Act.put, List.setIfInBounds_toArray, List.set_cons_zero, List.set_cons_succ, i64_w, i32_w]
  rfl
 refine pure_ (i := 3) (N := some 12) (v := ?_) (a' := ?_) #[true, false, false, true, false, false, false, false, false, false, false, false, false, false, false, false, false, false, false, false, false, false, false, false, false, false, false, false, false, false, false, false, false] rfl rfl (any_of HT_.out (by kernel_rfl)) (fun _ _ _ h => h) (Or.inl ⟨by rfl, ?_⟩) ?_ ?_
 rotate_left
 ·intro w'
  go_simp
  with_reducible rfl
 rotate_left
 ·simp only [Act.put, List.setIfInBounds_toArray, List.set_cons_zero, List.set_cons_succ, i64_w, i32_w]
  rfl
 refine pure_ (i := 4) (N := some 13) (v := ?_) (a' := ?_) #[true, false, false, true, true, false, false, false, false, false, false, false, false, false, false, false, false, false, false, false, false, false, false, false, false, false, false, false, false, false, false, false, false] rfl rfl (any_of HT_.out (by kernel_rfl)) (fun _ _ _ h => h) (Or.inl ⟨by rfl, ?_⟩) ?_ ?_
 rotate_left
 ·intro w'
  go_simp
  with_reducible rfl
 rotate_left
 ·simp only [Act.put, List.setIfInBounds_toArray, List.set_cons_zero, List.set_cons_succ, i64_w, i32_w]
  rfl
 refine pure_ (i := 5) (N := some 14) (v := ?_) (a' := ?_) #[true, false, false, true, true, true, false, false, false, false, false, false, false, false, false, false, false, false, false, false, false, false, false, false, false, false, false, false, false, false, false, false, false] rfl rfl (any_of HT_.out (by kernel_rfl)) (fun _ _ _ h => h) (Or.inl ⟨by rfl, ?_⟩) ?_ ?_
 rotate_left
 ·intro w'
  go_simp
  with_reducible rfl
 rotate_left
 ·simp only [Act.put, List.setIfInBounds_toArray, List.set_cons_zero, List.set_cons_succ, i64_w, i32_w]
  rfl
 refine pure_ (i := 9) (N := some 18) (v := ?_) (a' := ?_) #[true, false, false, true, true, true, false, false, false, true, false, false, false, false, false, false, false, false, false, false, false, false, false, false, false, false, false, false, false, false, false, false, false] rfl rfl (any_of HT_.out (by kernel_rfl)) (fun _ _ _ h => h) (Or.inl ⟨by rfl, ?_⟩) ?_ ?_
 rotate_left
 ·intro w'
  go_simp
  with_reducible rfl
 rotate_left
 ·simp only [Act.put, List.setIfInBounds_toArray, List.set_cons_zero, List.set_cons_succ, i64_w, i32_w]
  rfl
 refine pure_ (i := 10) (N := some 19) (v := ?_) (a' := ?_) #[true, false, false, true, true, true, false, false, false, true, true, false, false, false, false, false, false, false, false, false, false, false, false, false, false, false, false, false, false, false, false, false, false] rfl rfl (any_of HT_.out (by kernel_rfl)) (fun _ _ _ h => h) (Or.inl ⟨by rfl, ?_⟩) ?_ ?_
 rotate_left
 ·intro w'
  go_simp
  with_reducible rfl
 rotate_left
 ·simp only [Act.put, List.setIfInBounds_toArray, List.set_cons_zero, List.set_cons_succ, i64_w, i32_w]
  rfl
 refine pure_ (i := 13) (N := some 22) (v := ?_) (a' := ?_) #[true, false, false, true, true, true, false, false, false, true, true, false, false, true, false, false, false, false, false, false, false, false, false, false, false, false, false, false, false, false, false, false, false] rfl rfl (any_of HT_.out (by kernel_rfl)) (fun _ _ _ h => h) (Or.inl ⟨by rfl, ?_⟩) ?_ ?_
 rotate_left
 ·intro w'
  go_simp
  with_reducible rfl
 rotate_left
 ·simp only [Act.put, List.setIfInBounds_toArray, List.set_cons_zero, List.set_cons_succ, i64_w, i32_w]
  rfl
 refine pure_ (i := 14) (N := some 23) (v := ?_) (a' := ?_) #[true, false, false, true, true, true, false, false, false, true, true, false, false, true, true, false, false, false, false, false, false, false, false, false, false, false, false, false, false, false, false, false, false] rfl rfl (any_of HT_.out (by kernel_rfl)) (fun _ _ _ h => h) (Or.inl ⟨by rfl, ?_⟩) ?_ ?_
 rotate_left
 ·intro w'
  go_simp
  with_reducible rfl
 rotate_left
 ·simp only [Act.put, List.setIfInBounds_toArray, List.set_cons_zero, List.set_cons_succ, i64_w, i32_w]
  rfl
 refine pure_ (i := 17) (N := some 26) (v := ?_) (a' := ?_) #[true, false, false, true, true, true, false, false, false, true, true, false, false, true, true, false, false, true, false, false, false, false, false, false, false, false, false, false, false, false, false, false, false] rfl rfl (any_of HT_.out (by kernel_rfl)) (fun _ _ _ h => h) (Or.inl ⟨by rfl, ?_⟩) ?_ ?_
 rotate_left
 ·intro w'
  go_simp
  with_reducible rfl
 rotate_left
 ·simp only [Act.put, List.setIfInBounds_toArray, List.set_cons_zero, List.set_cons_succ, i64_w, i32_w]
  rfl
 refine pure_ (i := 18) (N := some 27) (v := ?_) (a' := ?_) #[true, false, false, true, true, true, false, false, false, true, true, false, false, true, true, false, false, true, true, false, false, false, false, false, false, false, false, false, false, false, false, false, false] rfl rfl (any_of HT_.out (by kernel_rfl)) (fun _ _ _ h => h) (Or.inl ⟨by rfl, ?_⟩) ?_ ?_
 rotate_left
 ·intro w'
  go_simp
  with_reducible rfl
 rotate_left
 ·simp only [Act.put, List.setIfInBounds_toArray, List.set_cons_zero, List.set_cons_succ, i64_w, i32_w]
  rfl
 refine pure_ (i := 22) (N := some 31) (v := ?_) (a' := ?_) #[true, false, false, true, true, true, false, false, false, true, true, false, false, true, true, false, false, true, true, false, false, false, true, false, false, false, false, false, false, false, false, false, false] rfl rfl (any_of HT_.out (by kernel_rfl)) (fun _ _ _ h => h) (Or.inl ⟨by rfl, ?_⟩) ?_ ?_
 rotate_left
 ·intro w'
  go_simp
  with_reducible rfl
 rotate_left
 ·simp only [Act.put, List.setIfInBounds_toArray, List.set_cons_zero, List.set_cons_succ, i64_w, i32_w]
  rfl
 refine pure_ (i := 23) (N := some 32) (v := ?_) (a' := ?_) #[true, false, false, true, true, true, false, false, false, true, true, false, false, true, true, false, false, true, true, false, false, false, true, true, false, false, false, false, false, false, false, false, false] rfl rfl (any_of HT_.out (by kernel_rfl)) (fun _ _ _ h => h) (Or.inl ⟨by rfl, ?_⟩) ?_ ?_
 rotate_left
 ·intro w'
  go_simp
  with_reducible rfl
 rotate_left
 ·simp only [Act.put, List.setIfInBounds_toArray, List.set_cons_zero, List.set_cons_succ, i64_w, i32_w]
  rfl
 refine pure_ (i := 26) (N := some 35) (v := ?_) (a' := ?_) #[true, false, false, true, true, true, false, false, false, true, true, false, false, true, true, false, false, true, true, false, false, false, true, true, false, false, true, false, false, false, false, false, false] rfl rfl (any_of HT_.out (by kernel_rfl)) (fun _ _ _ h => h) (Or.inl ⟨by rfl, ?_⟩) ?_ ?_
 rotate_left
 ·intro w'
  go_simp
  with_reducible rfl
 rotate_left
 ·simp only [Act.put, List.setIfInBounds_toArray, List.set_cons_zero, List.set_cons_succ, i64_w, i32_w]
  rfl
 refine pure_ (i := 27) (N := some 36) (v := ?_) (a' := ?_) #[true, false, false, true, true, true, false, false, false, true, true, false, false, true, true, false, false, true, true, false, false, false, true, true, false, false, true, true, false, false, false, false, false] rfl rfl (any_of HT_.out (by kernel_rfl)) (fun _ _ _ h => h) (Or.inl ⟨by rfl, ?_⟩) ?_ ?_
 rotate_left
 ·intro w'
  go_simp
  with_reducible rfl
 rotate_left
 ·simp only [Act.put, List.setIfInBounds_toArray, List.set_cons_zero, List.set_cons_succ, i64_w, i32_w]
  rfl
 refine inv_at [1, 2, 6, 7, 8, 11, 12, 15, 16, 19, 20, 21, 24, 25, 28, 29, 30, 31, 32] (fun a0_ b a w' => ∃ (v298 : Value) (v301 : Value) (v304 : Value) (v307 : Value) (v310 : Value) (v313 : Value) (v316 : Value) (v319 : Value) (m32_ : Value), a = putSel a0_ b [(1, 10, .int .i64 a1_0), (2, 11, .int .u8 ((a1_0) % 256)), (6, 15, .int .i64 a1_1), (7, 16, .int .u8 ((a1_1) % 256)), (8, 17, v298), (11, 20, .agg #[.int .i64 a1_1, .int .i64 a1_2, .int .i64 a1_3, .int .i64 a1_4, .int .i64 a1_5]), (12, 21, v301), (15, 24, .agg #[.int .i64 a1_6, .int .i64 a1_7, .int .i64 a1_8, .int .i64 a1_9, .int .i64 a1_10]), (16, 25, v304), (19, 28, .int .i64 a1_11), (20, 29, .int .u8 ((a1_11) % 256)), (21, 30, v307), (24, 33, .int .i64 a1_12), (25, 34, v310), (28, 37, .int .i64 a1_13), (29, 38, v313), (30, 39, v316), (31, 40, v319), (32, 5, m32_)] ∧ (w'.heap[gb296]? = some (.cells #[.int .i64 a1_0, .int .i64 a1_1, .int .i64 a1_2, .int .i64 a1_3, .int .i64 a1_4, .int .i64 a1_5, .int .i64 a1_6, .int .i64 a1_7, .int .i64 a1_8, .int .i64 a1_9, .int .i64 a1_10, .int .i64 a1_11, .int .i64 a1_12, .int .i64 a1_13] 33 (0, 0))) ∧ (Below w.heap.size w w') ∧ (b 8 = true → b 30 = false → Kd.R (Kd.int .u8) 5 w' w.heap.size (fun _ => True) v298 y297) ∧ (b 12 = true → b 30 = false → Kd.R (Kd.int .u8) 5 w' w.heap.size (fun _ => True) v301 t300) ∧ (b 16 = true → b 30 = false → Kd.R (Kd.int .u8) 5 w' w.heap.size (fun _ => True) v304 t303) ∧ (b 21 = true → b 30 = false → Kd.R (Kd.int .u8) 5 w' w.heap.size (fun _ => True) v307 y306) ∧ (b 25 = true → b 30 = false → Kd.R (Kd.int .u8) 5 w' w.heap.size (fun _ => True) v310 t309) ∧ (b 29 = true → b 30 = false → Kd.R (Kd.int .u8) 5 w' w.heap.size (fun _ => True) v313 t312) ∧ (b 30 = true → Kd.N (Kd.slice 5 (Kd.int .u8)) 68 w' w.heap.size (fun k_ => k_ ≠ gb296) v316 y315) ∧ (b 31 = true → Kd.R (Kd.int .u8) 5 w' w.heap.size (fun _ => True) v319 t318) ∧ (b 32 = true → (m32_ : Value) = v319)) HT_.out HW_.out (by kernel_rfl) (by kernel_rfl) ?_ ?_ ?_
 ·exact ⟨.bool false, .bool false, .bool false, .bool false, .bool false, .bool false, .bool false, .bool false, .bool false, by simp only [putSel, Bool.false_eq_true, if_false], BK296.out, HB.out, fun h_ => absurd h_ (by decide), fun h_ => absurd h_ (by decide), fun h_ => absurd h_ (by decide), fun h_ => absurd h_ (by decide), fun h_ => absurd h_ (by decide), fun h_ => absurd h_ (by decide), fun h_ => absurd h_ (by decide), fun h_ => absurd h_ (by decide), fun h_ => absurd h_ (by decide)⟩
 ·skip
  clear BK296 HB
  refine steps_cons ?_ ?_
  ·rintro b a w' ⟨v298, v301, v304, v307, v310, v313, v316, v319, m32_, ha, Q_BK296, Q_HB, Q_HO299, Q_HO302, Q_HO305, Q_HO308, Q_HO311, Q_HO314, Q_HO317, Q_HO320, Q_X32_⟩ hb_ hon hoff
   refine ⟨_, rfl, fun K hK => ?_⟩
   have e9 : a.tmps[9]? = some (.pointer (some ⟨gb296, 0, none⟩)) := by rw [ha]; exact (putSel_off rfl).trans rfl
   replace ha := Gv.a0 ha
   have BK296 := Gv.a0 Q_BK296
   have HB := Gv.a0 Q_HB
   have hc0_ : w'.cell? ⟨gb296, 0, none⟩ = some (.int .i64 a1_0) := (blk_cell BK296.out 0).trans rfl
   have hc1_ : w'.cell? ⟨gb296, 1, none⟩ = some (.int .i64 a1_1) := (blk_cell BK296.out 1).trans rfl
   have hc2_ : w'.cell? ⟨gb296, 2, none⟩ = some (.int .i64 a1_2) := (blk_cell BK296.out 2).trans rfl
   have hc3_ : w'.cell? ⟨gb296, 3, none⟩ = some (.int .i64 a1_3) := (blk_cell BK296.out 3).trans rfl
   have hc4_ : w'.cell? ⟨gb296, 4, none⟩ = some (.int .i64 a1_4) := (blk_cell BK296.out 4).trans rfl
   have hc5_ : w'.cell? ⟨gb296, 5, none⟩ = some (.int .i64 a1_5) := (blk_cell BK296.out 5).trans rfl
   have hc6_ : w'.cell? ⟨gb296, 6, none⟩ = some (.int .i64 a1_6) := (blk_cell BK296.out 6).trans rfl
   have hc7_ : w'.cell? ⟨gb296, 7, none⟩ = some (.int .i64 a1_7) := (blk_cell BK296.out 7).trans rfl
   have hc8_ : w'.cell? ⟨gb296, 8, none⟩ = some (.int .i64 a1_8) := (blk_cell BK296.out 8).trans rfl
   have hc9_ : w'.cell? ⟨gb296, 9, none⟩ = some (.int .i64 a1_9) := (blk_cell BK296.out 9).trans rfl
   have hc10_ : w'.cell? ⟨gb296, 10, none⟩ = some (.int .i64 a1_10) := (blk_cell BK296.out 10).trans rfl
   have hc11_ : w'.cell? ⟨gb296, 11, none⟩ = some (.int .i64 a1_11) := (blk_cell BK296.out 11).trans rfl
   have hc12_ : w'.cell? ⟨gb296, 12, none⟩ = some (.int .i64 a1_12) := (blk_cell BK296.out 12).trans rfl
   have hc13_ : w'.cell? ⟨gb296, 13, none⟩ = some (.int .i64 a1_13) := (blk_cell BK296.out 13).trans rfl
   refine value_ (w1 := w') (v := .int .i64 a1_0) (by rfl) rfl ?_ ?_
   ·go_simp
    (try simp only [i64_w])
    try rfl
   refine hK.out _ _ ⟨v298, v301, v304, v307, v310, v313, v316, v319, m32_, (by rw [ha.out]; exact putSel_upk 0 hb_ rfl rfl rfl), Q_BK296, Q_HB, fun h0_ _ => absurd ((hoff 8 (by kernel_rfl)).symm.trans h0_) (by decide), Q_HO302, Q_HO305, Q_HO308, Q_HO311, Q_HO314, fun h0_ => absurd ((hoff 30 (by kernel_rfl)).symm.trans h0_) (by decide), fun h0_ => absurd ((hoff 31 (by kernel_rfl)).symm.trans h0_) (by decide), fun h0_ => absurd ((hoff 32 (by kernel_rfl)).symm.trans h0_) (by decide)⟩
  refine steps_cons ?_ ?_
  ·rintro b a w' ⟨v298, v301, v304, v307, v310, v313, v316, v319, m32_, ha, Q_BK296, Q_HB, Q_HO299, Q_HO302, Q_HO305, Q_HO308, Q_HO311, Q_HO314, Q_HO317, Q_HO320, Q_X32_⟩ hb_ hon hoff
   refine ⟨_, rfl, fun K hK => ?_⟩
   have e10 : a.tmps[10]? = some (.int .i64 a1_0) := by rw [ha]; exact putSel_on (e := (1, 10, .int .i64 a1_0)) 0 rfl rfl (hon 1 (by kernel_rfl)) rfl
   replace ha := Gv.a0 ha
   have BK296 := Gv.a0 Q_BK296
   have HB := Gv.a0 Q_HB
   refine value_ (w1 := w') (v := .int .u8 ((a1_0) % 256)) (by rfl) rfl ?_ ?_
   ·go_simp
    (try simp only [i64_w])
    try rfl
   refine hK.out _ _ ⟨v298, v301, v304, v307, v310, v313, v316, v319, m32_, (by rw [ha.out]; exact putSel_upk 1 hb_ rfl rfl rfl), Q_BK296, Q_HB, fun h0_ _ => absurd ((hoff 8 (by kernel_rfl)).symm.trans h0_) (by decide), Q_HO302, Q_HO305, Q_HO308, Q_HO311, Q_HO314, fun h0_ => absurd ((hoff 30 (by kernel_rfl)).symm.trans h0_) (by decide), fun h0_ => absurd ((hoff 31 (by kernel_rfl)).symm.trans h0_) (by decide), fun h0_ => absurd ((hoff 32 (by kernel_rfl)).symm.trans h0_) (by decide)⟩
  refine steps_cons ?_ ?_
  ·rintro b a w' ⟨v298, v301, v304, v307, v310, v313, v316, v319, m32_, ha, Q_BK296, Q_HB, Q_HO299, Q_HO302, Q_HO305, Q_HO308, Q_HO311, Q_HO314, Q_HO317, Q_HO320, Q_X32_⟩ hb_ hon hoff
   refine ⟨_, rfl, fun K hK => ?_⟩
   have e14 : a.tmps[14]? = some (.pointer (some ⟨gb296, 1, none⟩)) := by rw [ha]; exact (putSel_off rfl).trans rfl
   replace ha := Gv.a0 ha
   have BK296 := Gv.a0 Q_BK296
   have HB := Gv.a0 Q_HB
   have hc0_ : w'.cell? ⟨gb296, 0, none⟩ = some (.int .i64 a1_0) := (blk_cell BK296.out 0).trans rfl
   have hc1_ : w'.cell? ⟨gb296, 1, none⟩ = some (.int .i64 a1_1) := (blk_cell BK296.out 1).trans rfl
   have hc2_ : w'.cell? ⟨gb296, 2, none⟩ = some (.int .i64 a1_2) := (blk_cell BK296.out 2).trans rfl
   have hc3_ : w'.cell? ⟨gb296, 3, none⟩ = some (.int .i64 a1_3) := (blk_cell BK296.out 3).trans rfl
   have hc4_ : w'.cell? ⟨gb296, 4, none⟩ = some (.int .i64 a1_4) := (blk_cell BK296.out 4).trans rfl
   have hc5_ : w'.cell? ⟨gb296, 5, none⟩ = some (.int .i64 a1_5) := (blk_cell BK296.out 5).trans rfl
   have hc6_ : w'.cell? ⟨gb296, 6, none⟩ = some (.int .i64 a1_6) := (blk_cell BK296.out 6).trans rfl
   have hc7_ : w'.cell? ⟨gb296, 7, none⟩ = some (.int .i64 a1_7) := (blk_cell BK296.out 7).trans rfl
   have hc8_ : w'.cell? ⟨gb296, 8, none⟩ = some (.int .i64 a1_8) := (blk_cell BK296.out 8).trans rfl
   have hc9_ : w'.cell? ⟨gb296, 9, none⟩ = some (.int .i64 a1_9) := (blk_cell BK296.out 9).trans rfl
   have hc10_ : w'.cell? ⟨gb296, 10, none⟩ = some (.int .i64 a1_10) := (blk_cell BK296.out 10).trans rfl
   have hc11_ : w'.cell? ⟨gb296, 11, none⟩ = some (.int .i64 a1_11) := (blk_cell BK296.out 11).trans rfl
   have hc12_ : w'.cell? ⟨gb296, 12, none⟩ = some (.int .i64 a1_12) := (blk_cell BK296.out 12).trans rfl
   have hc13_ : w'.cell? ⟨gb296, 13, none⟩ = some (.int .i64 a1_13) := (blk_cell BK296.out 13).trans rfl
   refine value_ (w1 := w') (v := .int .i64 a1_1) (by rfl) rfl ?_ ?_
   ·go_simp
    (try simp only [i64_w])
    try rfl
   refine hK.out _ _ ⟨v298, v301, v304, v307, v310, v313, v316, v319, m32_, (by rw [ha.out]; exact putSel_upk 2 hb_ rfl rfl rfl), Q_BK296, Q_HB, fun h0_ _ => absurd ((hoff 8 (by kernel_rfl)).symm.trans h0_) (by decide), Q_HO302, Q_HO305, Q_HO308, Q_HO311, Q_HO314, fun h0_ => absurd ((hoff 30 (by kernel_rfl)).symm.trans h0_) (by decide), fun h0_ => absurd ((hoff 31 (by kernel_rfl)).symm.trans h0_) (by decide), fun h0_ => absurd ((hoff 32 (by kernel_rfl)).symm.trans h0_) (by decide)⟩
  refine steps_cons ?_ ?_
  ·rintro b a w' ⟨v298, v301, v304, v307, v310, v313, v316, v319, m32_, ha, Q_BK296, Q_HB, Q_HO299, Q_HO302, Q_HO305, Q_HO308, Q_HO311, Q_HO314, Q_HO317, Q_HO320, Q_X32_⟩ hb_ hon hoff
   refine ⟨_, rfl, fun K hK => ?_⟩
   have e15 : a.tmps[15]? = some (.int .i64 a1_1) := by rw [ha]; exact putSel_on (e := (6, 15, .int .i64 a1_1)) 2 rfl rfl (hon 6 (by kernel_rfl)) rfl
   replace ha := Gv.a0 ha
   have BK296 := Gv.a0 Q_BK296
   have HB := Gv.a0 Q_HB
   refine value_ (w1 := w') (v := .int .u8 ((a1_1) % 256)) (by rfl) rfl ?_ ?_
   ·go_simp
    (try simp only [i64_w])
    try rfl
   refine hK.out _ _ ⟨v298, v301, v304, v307, v310, v313, v316, v319, m32_, (by rw [ha.out]; exact putSel_upk 3 hb_ rfl rfl rfl), Q_BK296, Q_HB, fun h0_ _ => absurd ((hoff 8 (by kernel_rfl)).symm.trans h0_) (by decide), Q_HO302, Q_HO305, Q_HO308, Q_HO311, Q_HO314, fun h0_ => absurd ((hoff 30 (by kernel_rfl)).symm.trans h0_) (by decide), fun h0_ => absurd ((hoff 31 (by kernel_rfl)).symm.trans h0_) (by decide), fun h0_ => absurd ((hoff 32 (by kernel_rfl)).symm.trans h0_) (by decide)⟩
  refine steps_cons ?_ ?_
  ·rintro b a w' ⟨v298, v301, v304, v307, v310, v313, v316, v319, m32_, ha, Q_BK296, Q_HB, Q_HO299, Q_HO302, Q_HO305, Q_HO308, Q_HO311, Q_HO314, Q_HO317, Q_HO320, Q_X32_⟩ hb_ hon hoff
   refine ⟨_, rfl, fun K hK => ?_⟩
   have e11 : a.tmps[11]? = some (.int .u8 ((a1_0) % 256)) := by rw [ha]; exact putSel_on (e := (2, 11, .int .u8 ((a1_0) % 256))) 1 rfl rfl (hon 2 (by kernel_rfl)) rfl
   have e16 : a.tmps[16]? = some (.int .u8 ((a1_1) % 256)) := by rw [ha]; exact putSel_on (e := (7, 16, .int .u8 ((a1_1) % 256))) 3 rfl rfl (hon 7 (by kernel_rfl)) rfl
   replace ha := Gv.a0 ha
   have BK296 := Gv.a0 Q_BK296
   have HB := Gv.a0 Q_HB
   refine Kd.R_lit_step (Kd.int .u8) _ 5 ?hg (N := 17) ?hd (xs := ([(a1_0) % 256, (a1_1) % 256] : List Int)) (inner := [.int .u8 ((a1_0) % 256), .int .u8 ((a1_1) % 256)]) (ok := fun _ => True) (okp := fun _ => True) ?hr ?hp (fun _ hk => hk) trivial (Below.refl _ _) (Nat.le_refl _) (by simp) ?_; (case hd => rfl); (case hg => rfl); (case hr => first | (go_simp; done) | (go_simp; rfl)); (case hp => exact (Reps.one (show Kd.M (Kd.int .u8) _ _ _ ((a1_0) % 256) [.int .u8 ((a1_0) % 256)] from rfl) (Reps.one (show Kd.M (Kd.int .u8) _ _ _ ((a1_1) % 256) [.int .u8 ((a1_1) % 256)] from rfl) (Reps.none _ _))))
   intro v298 w10 ho11 hb hg_ hnew_
   clear hg_ hnew_
   (first | rw [← Ny297.out] at ho11 | (simp only [Int.reduceToNat] at ho11; rw [← Ny297.out] at ho11))
   have n0_ := Gv.a0 (Kd.R_lower ho11 (below_size Gv.bw))
   have n1_ := Gv.a0 (blk_below (g := gb296) (o := .cells #[.int .i64 a1_0, .int .i64 a1_1, .int .i64 a1_2, .int .i64 a1_3, .int .i64 a1_4, .int .i64 a1_5, .int .i64 a1_6, .int .i64 a1_7, .int .i64 a1_8, .int .i64 a1_9, .int .i64 a1_10, .int .i64 a1_11, .int .i64 a1_12, .int .i64 a1_13] 33 (0, 0)) Gv.bk hb)
   have n2_ := Gv.a0 (below_step Gv.bw hb)
   have z_HO302 := fun (h0_ : b 12 = true) (h1_ : b 30 = false) => (show Kd.R (Kd.int .u8) 5 w10 w.heap.size (fun _ => True) v301 t300 from by first | exact (Kd.R_elder' (by (with_reducible repeat (first | apply Kd.R_alloc | apply Kd.R_drewN | apply Kd.R_drew)); exact (Q_HO302 h0_ h1_)) (Kd.R_base ho11) hb) | exact Kd.R_mono (Kd.R_elder' (by (with_reducible repeat (first | apply Kd.R_alloc | apply Kd.R_drewN | apply Kd.R_drew)); exact (Q_HO302 h0_ h1_)) (Kd.R_base ho11) hb) (fun _ h_ => by first | trivial | exact h_ | exact h_.1))
   have z_HO305 := fun (h0_ : b 16 = true) (h1_ : b 30 = false) => (show Kd.R (Kd.int .u8) 5 w10 w.heap.size (fun _ => True) v304 t303 from by first | exact (Kd.R_elder' (by (with_reducible repeat (first | apply Kd.R_alloc | apply Kd.R_drewN | apply Kd.R_drew)); exact (Q_HO305 h0_ h1_)) (Kd.R_base ho11) hb) | exact Kd.R_mono (Kd.R_elder' (by (with_reducible repeat (first | apply Kd.R_alloc | apply Kd.R_drewN | apply Kd.R_drew)); exact (Q_HO305 h0_ h1_)) (Kd.R_base ho11) hb) (fun _ h_ => by first | trivial | exact h_ | exact h_.1))
   have z_HO308 := fun (h0_ : b 21 = true) (h1_ : b 30 = false) => (show Kd.R (Kd.int .u8) 5 w10 w.heap.size (fun _ => True) v307 y306 from by first | exact (Kd.R_elder' (by (with_reducible repeat (first | apply Kd.R_alloc | apply Kd.R_drewN | apply Kd.R_drew)); exact (Q_HO308 h0_ h1_)) (Kd.R_base ho11) hb) | exact Kd.R_mono (Kd.R_elder' (by (with_reducible repeat (first | apply Kd.R_alloc | apply Kd.R_drewN | apply Kd.R_drew)); exact (Q_HO308 h0_ h1_)) (Kd.R_base ho11) hb) (fun _ h_ => by first | trivial | exact h_ | exact h_.1))
   have z_HO311 := fun (h0_ : b 25 = true) (h1_ : b 30 = false) => (show Kd.R (Kd.int .u8) 5 w10 w.heap.size (fun _ => True) v310 t309 from by first | exact (Kd.R_elder' (by (with_reducible repeat (first | apply Kd.R_alloc | apply Kd.R_drewN | apply Kd.R_drew)); exact (Q_HO311 h0_ h1_)) (Kd.R_base ho11) hb) | exact Kd.R_mono (Kd.R_elder' (by (with_reducible repeat (first | apply Kd.R_alloc | apply Kd.R_drewN | apply Kd.R_drew)); exact (Q_HO311 h0_ h1_)) (Kd.R_base ho11) hb) (fun _ h_ => by first | trivial | exact h_ | exact h_.1))
   have z_HO314 := fun (h0_ : b 29 = true) (h1_ : b 30 = false) => (show Kd.R (Kd.int .u8) 5 w10 w.heap.size (fun _ => True) v313 t312 from by first | exact (Kd.R_elder' (by (with_reducible repeat (first | apply Kd.R_alloc | apply Kd.R_drewN | apply Kd.R_drew)); exact (Q_HO314 h0_ h1_)) (Kd.R_base ho11) hb) | exact Kd.R_mono (Kd.R_elder' (by (with_reducible repeat (first | apply Kd.R_alloc | apply Kd.R_drewN | apply Kd.R_drew)); exact (Q_HO314 h0_ h1_)) (Kd.R_base ho11) hb) (fun _ h_ => by first | trivial | exact h_ | exact h_.1))
   clear BK296
   clear HB
   have HO299 := n0_
   have BK296 := n1_
   have HB := n2_
   clear n0_ n1_ n2_
   clear hb ho11
   refine hK.out _ _ ⟨v298, v301, v304, v307, v310, v313, v316, v319, m32_, (by rw [ha.out]; exact putSel_upk 4 hb_ rfl rfl rfl), Gv.bk, Gv.bw, fun _ _ => (by (with_reducible repeat (first | apply Kd.R_alloc | apply Kd.R_drewN | apply Kd.R_drew)); first | exact HO299.out | exact Kd.R_mono HO299.out (fun _ hk => by first | exact hk.2 | trivial | exact ⟨hk.1.2, hk.2⟩ | exact ⟨trivial, hk.2⟩ | exact hk.1.2 | exact hk | exact ⟨trivial, hk⟩ | exact hk.1 | (simp only [true_and, and_true] at hk ⊢; first | exact hk | exact hk.2 | exact hk.1 | exact ⟨hk.2, hk.1⟩ | omega | (constructor <;> first | exact hk.1 | exact hk.2 | exact hk.1.1 | exact hk.1.2 | exact hk.2.1 | exact hk.2.2)))), z_HO302, z_HO305, z_HO308, z_HO311, z_HO314, fun h0_ => absurd ((hoff 30 (by kernel_rfl)).symm.trans h0_) (by decide), fun h0_ => absurd ((hoff 31 (by kernel_rfl)).symm.trans h0_) (by decide), fun h0_ => absurd ((hoff 32 (by kernel_rfl)).symm.trans h0_) (by decide)⟩
  refine steps_cons ?_ ?_
  ·rintro b a w' ⟨v298, v301, v304, v307, v310, v313, v316, v319, m32_, ha, Q_BK296, Q_HB, Q_HO299, Q_HO302, Q_HO305, Q_HO308, Q_HO311, Q_HO314, Q_HO317, Q_HO320, Q_X32_⟩ hb_ hon hoff
   refine ⟨_, rfl, fun K hK => ?_⟩
   have e19 : a.tmps[19]? = some (.pointer (some ⟨gb296, 1, none⟩)) := by rw [ha]; exact (putSel_off rfl).trans rfl
   replace ha := Gv.a0 ha
   have BK296 := Gv.a0 Q_BK296
   have HB := Gv.a0 Q_HB
   have hc0_ : w'.cell? ⟨gb296, 0, none⟩ = some (.int .i64 a1_0) := (blk_cell BK296.out 0).trans rfl
   have hc1_ : w'.cell? ⟨gb296, 1, none⟩ = some (.int .i64 a1_1) := (blk_cell BK296.out 1).trans rfl
   have hc2_ : w'.cell? ⟨gb296, 2, none⟩ = some (.int .i64 a1_2) := (blk_cell BK296.out 2).trans rfl
   have hc3_ : w'.cell? ⟨gb296, 3, none⟩ = some (.int .i64 a1_3) := (blk_cell BK296.out 3).trans rfl
   have hc4_ : w'.cell? ⟨gb296, 4, none⟩ = some (.int .i64 a1_4) := (blk_cell BK296.out 4).trans rfl
   have hc5_ : w'.cell? ⟨gb296, 5, none⟩ = some (.int .i64 a1_5) := (blk_cell BK296.out 5).trans rfl
   have hc6_ : w'.cell? ⟨gb296, 6, none⟩ = some (.int .i64 a1_6) := (blk_cell BK296.out 6).trans rfl
   have hc7_ : w'.cell? ⟨gb296, 7, none⟩ = some (.int .i64 a1_7) := (blk_cell BK296.out 7).trans rfl
   have hc8_ : w'.cell? ⟨gb296, 8, none⟩ = some (.int .i64 a1_8) := (blk_cell BK296.out 8).trans rfl
   have hc9_ : w'.cell? ⟨gb296, 9, none⟩ = some (.int .i64 a1_9) := (blk_cell BK296.out 9).trans rfl
   have hc10_ : w'.cell? ⟨gb296, 10, none⟩ = some (.int .i64 a1_10) := (blk_cell BK296.out 10).trans rfl
   have hc11_ : w'.cell? ⟨gb296, 11, none⟩ = some (.int .i64 a1_11) := (blk_cell BK296.out 11).trans rfl
   have hc12_ : w'.cell? ⟨gb296, 12, none⟩ = some (.int .i64 a1_12) := (blk_cell BK296.out 12).trans rfl
   have hc13_ : w'.cell? ⟨gb296, 13, none⟩ = some (.int .i64 a1_13) := (blk_cell BK296.out 13).trans rfl
   refine value_ (w1 := w') (v := .agg #[.int .i64 a1_1, .int .i64 a1_2, .int .i64 a1_3, .int .i64 a1_4, .int .i64 a1_5]) (by rfl) rfl ?_ ?_
   ·go_simp
    (try simp only [i64_w])
    try rfl
   refine hK.out _ _ ⟨v298, v301, v304, v307, v310, v313, v316, v319, m32_, (by rw [ha.out]; exact putSel_upk 5 hb_ rfl rfl rfl), Q_BK296, Q_HB, Q_HO299, fun h0_ _ => absurd ((hoff 12 (by kernel_rfl)).symm.trans h0_) (by decide), fun h0_ _ => absurd ((hoff 16 (by kernel_rfl)).symm.trans h0_) (by decide), Q_HO308, fun h0_ _ => absurd ((hoff 25 (by kernel_rfl)).symm.trans h0_) (by decide), fun h0_ _ => absurd ((hoff 29 (by kernel_rfl)).symm.trans h0_) (by decide), fun h0_ => absurd ((hoff 30 (by kernel_rfl)).symm.trans h0_) (by decide), fun h0_ => absurd ((hoff 31 (by kernel_rfl)).symm.trans h0_) (by decide), fun h0_ => absurd ((hoff 32 (by kernel_rfl)).symm.trans h0_) (by decide)⟩
  refine steps_cons ?_ ?_
  ·rintro b a w' ⟨v298, v301, v304, v307, v310, v313, v316, v319, m32_, ha, Q_BK296, Q_HB, Q_HO299, Q_HO302, Q_HO305, Q_HO308, Q_HO311, Q_HO314, Q_HO317, Q_HO320, Q_X32_⟩ hb_ hon hoff
   refine ⟨_, rfl, fun K hK => ?_⟩
   have e20 : a.tmps[20]? = some (.agg #[.int .i64 a1_1, .int .i64 a1_2, .int .i64 a1_3, .int .i64 a1_4, .int .i64 a1_5]) := by rw [ha]; exact putSel_on (e := (11, 20, .agg #[.int .i64 a1_1, .int .i64 a1_2, .int .i64 a1_3, .int .i64 a1_4, .int .i64 a1_5])) 5 rfl rfl (hon 11 (by kernel_rfl)) rfl
   replace ha := Gv.a0 ha
   have BK296 := Gv.a0 Q_BK296
   have HB := Gv.a0 Q_HB
   refine goes_ Try.func74 (by kernel_rfl) rfl #[.agg #[.int .i64 a1_1, .int .i64 a1_2, .int .i64 a1_3, .int .i64 a1_4, .int .i64 a1_5]] (by rfl) rfl rfl (by first | (simp only [List.map_toArray, List.map_cons, List.map_nil, Act.eval, Array.getD_eq_getD_getElem?, Option.getD_some, e20]; done) | (simp only [List.map_toArray, List.map_cons, List.map_nil, Act.eval, Array.getD_eq_getD_getElem?, Option.getD_some, e20]; rfl)) ?_
   with_reducible refine (impl_AddrBytes.calls k a1_1 a1_2 a1_3 a1_4 a1_5 t300 _ A3.out).mono ?_
   rintro e w10 ⟨v301, rfl, ho0, hb⟩
   refine ⟨_, rfl, ?_⟩
   have n0_ := Gv.a0 (Kd.R_lower ho0 (below_size Gv.bw))
   have n1_ := Gv.a0 (blk_below (g := gb296) (o := .cells #[.int .i64 a1_0, .int .i64 a1_1, .int .i64 a1_2, .int .i64 a1_3, .int .i64 a1_4, .int .i64 a1_5, .int .i64 a1_6, .int .i64 a1_7, .int .i64 a1_8, .int .i64 a1_9, .int .i64 a1_10, .int .i64 a1_11, .int .i64 a1_12, .int .i64 a1_13] 33 (0, 0)) Gv.bk hb)
   have n2_ := Gv.a0 (below_step Gv.bw hb)
   have z_HO299 := fun (h0_ : b 8 = true) (h1_ : b 30 = false) => (show Kd.R (Kd.int .u8) 5 w10 w.heap.size (fun _ => True) v298 y297 from by first | exact (Kd.R_elder' (by (with_reducible repeat (first | apply Kd.R_alloc | apply Kd.R_drewN | apply Kd.R_drew)); exact (Q_HO299 h0_ h1_)) (Kd.R_base ho0) hb) | exact Kd.R_mono (Kd.R_elder' (by (with_reducible repeat (first | apply Kd.R_alloc | apply Kd.R_drewN | apply Kd.R_drew)); exact (Q_HO299 h0_ h1_)) (Kd.R_base ho0) hb) (fun _ h_ => by first | trivial | exact h_ | exact h_.1))
   have z_HO308 := fun (h0_ : b 21 = true) (h1_ : b 30 = false) => (show Kd.R (Kd.int .u8) 5 w10 w.heap.size (fun _ => True) v307 y306 from by first | exact (Kd.R_elder' (by (with_reducible repeat (first | apply Kd.R_alloc | apply Kd.R_drewN | apply Kd.R_drew)); exact (Q_HO308 h0_ h1_)) (Kd.R_base ho0) hb) | exact Kd.R_mono (Kd.R_elder' (by (with_reducible repeat (first | apply Kd.R_alloc | apply Kd.R_drewN | apply Kd.R_drew)); exact (Q_HO308 h0_ h1_)) (Kd.R_base ho0) hb) (fun _ h_ => by first | trivial | exact h_ | exact h_.1))
   clear BK296
   clear HB
   have HO302 := n0_
   have BK296 := n1_
   have HB := n2_
   clear n0_ n1_ n2_
   (try clear hb)
   (try clear hb2)
   (try clear hk)
   (try clear hi)
   (try clear ho0)
   refine hK.out _ _ ⟨v298, v301, v304, v307, v310, v313, v316, v319, m32_, (by rw [ha.out]; exact putSel_upk 6 hb_ rfl rfl rfl), Gv.bk, Gv.bw, z_HO299, fun _ _ => (by (with_reducible repeat (first | apply Kd.R_alloc | apply Kd.R_drewN | apply Kd.R_drew)); first | exact HO302.out | exact Kd.R_mono HO302.out (fun _ hk => by first | exact hk.2 | trivial | exact ⟨hk.1.2, hk.2⟩ | exact ⟨trivial, hk.2⟩ | exact hk.1.2 | exact hk | exact ⟨trivial, hk⟩ | exact hk.1 | (simp only [true_and, and_true] at hk ⊢; first | exact hk | exact hk.2 | exact hk.1 | exact ⟨hk.2, hk.1⟩ | omega | (constructor <;> first | exact hk.1 | exact hk.2 | exact hk.1.1 | exact hk.1.2 | exact hk.2.1 | exact hk.2.2)))), fun h0_ _ => absurd ((hoff 16 (by kernel_rfl)).symm.trans h0_) (by decide), z_HO308, fun h0_ _ => absurd ((hoff 25 (by kernel_rfl)).symm.trans h0_) (by decide), fun h0_ _ => absurd ((hoff 29 (by kernel_rfl)).symm.trans h0_) (by decide), fun h0_ => absurd ((hoff 30 (by kernel_rfl)).symm.trans h0_) (by decide), fun h0_ => absurd ((hoff 31 (by kernel_rfl)).symm.trans h0_) (by decide), fun h0_ => absurd ((hoff 32 (by kernel_rfl)).symm.trans h0_) (by decide)⟩
  refine steps_cons ?_ ?_
  ·rintro b a w' ⟨v298, v301, v304, v307, v310, v313, v316, v319, m32_, ha, Q_BK296, Q_HB, Q_HO299, Q_HO302, Q_HO305, Q_HO308, Q_HO311, Q_HO314, Q_HO317, Q_HO320, Q_X32_⟩ hb_ hon hoff
   refine ⟨_, rfl, fun K hK => ?_⟩
   have e23 : a.tmps[23]? = some (.pointer (some ⟨gb296, 6, none⟩)) := by rw [ha]; exact (putSel_off rfl).trans rfl
   replace ha := Gv.a0 ha
   have BK296 := Gv.a0 Q_BK296
   have HB := Gv.a0 Q_HB
   have hc0_ : w'.cell? ⟨gb296, 0, none⟩ = some (.int .i64 a1_0) := (blk_cell BK296.out 0).trans rfl
   have hc1_ : w'.cell? ⟨gb296, 1, none⟩ = some (.int .i64 a1_1) := (blk_cell BK296.out 1).trans rfl
   have hc2_ : w'.cell? ⟨gb296, 2, none⟩ = some (.int .i64 a1_2) := (blk_cell BK296.out 2).trans rfl
   have hc3_ : w'.cell? ⟨gb296, 3, none⟩ = some (.int .i64 a1_3) := (blk_cell BK296.out 3).trans rfl
   have hc4_ : w'.cell? ⟨gb296, 4, none⟩ = some (.int .i64 a1_4) := (blk_cell BK296.out 4).trans rfl
   have hc5_ : w'.cell? ⟨gb296, 5, none⟩ = some (.int .i64 a1_5) := (blk_cell BK296.out 5).trans rfl
   have hc6_ : w'.cell? ⟨gb296, 6, none⟩ = some (.int .i64 a1_6) := (blk_cell BK296.out 6).trans rfl
   have hc7_ : w'.cell? ⟨gb296, 7, none⟩ = some (.int .i64 a1_7) := (blk_cell BK296.out 7).trans rfl
   have hc8_ : w'.cell? ⟨gb296, 8, none⟩ = some (.int .i64 a1_8) := (blk_cell BK296.out 8).trans rfl
   have hc9_ : w'.cell? ⟨gb296, 9, none⟩ = some (.int .i64 a1_9) := (blk_cell BK296.out 9).trans rfl
   have hc10_ : w'.cell? ⟨gb296, 10, none⟩ = some (.int .i64 a1_10) := (blk_cell BK296.out 10).trans rfl
   have hc11_ : w'.cell? ⟨gb296, 11, none⟩ = some (.int .i64 a1_11) := (blk_cell BK296.out 11).trans rfl
   have hc12_ : w'.cell? ⟨gb296, 12, none⟩ = some (.int .i64 a1_12) := (blk_cell BK296.out 12).trans rfl
   have hc13_ : w'.cell? ⟨gb296, 13, none⟩ = some (.int .i64 a1_13) := (blk_cell BK296.out 13).trans rfl
   refine value_ (w1 := w') (v := .agg #[.int .i64 a1_6, .int .i64 a1_7, .int .i64 a1_8, .int .i64 a1_9, .int .i64 a1_10]) (by rfl) rfl ?_ ?_
   ·go_simp
    (try simp only [i64_w])
    try rfl
   refine hK.out _ _ ⟨v298, v301, v304, v307, v310, v313, v316, v319, m32_, (by rw [ha.out]; exact putSel_upk 7 hb_ rfl rfl rfl), Q_BK296, Q_HB, Q_HO299, Q_HO302, fun h0_ _ => absurd ((hoff 16 (by kernel_rfl)).symm.trans h0_) (by decide), Q_HO308, fun h0_ _ => absurd ((hoff 25 (by kernel_rfl)).symm.trans h0_) (by decide), fun h0_ _ => absurd ((hoff 29 (by kernel_rfl)).symm.trans h0_) (by decide), fun h0_ => absurd ((hoff 30 (by kernel_rfl)).symm.trans h0_) (by decide), fun h0_ => absurd ((hoff 31 (by kernel_rfl)).symm.trans h0_) (by decide), fun h0_ => absurd ((hoff 32 (by kernel_rfl)).symm.trans h0_) (by decide)⟩
  refine steps_cons ?_ ?_
  ·rintro b a w' ⟨v298, v301, v304, v307, v310, v313, v316, v319, m32_, ha, Q_BK296, Q_HB, Q_HO299, Q_HO302, Q_HO305, Q_HO308, Q_HO311, Q_HO314, Q_HO317, Q_HO320, Q_X32_⟩ hb_ hon hoff
   refine ⟨_, rfl, fun K hK => ?_⟩
   have e24 : a.tmps[24]? = some (.agg #[.int .i64 a1_6, .int .i64 a1_7, .int .i64 a1_8, .int .i64 a1_9, .int .i64 a1_10]) := by rw [ha]; exact putSel_on (e := (15, 24, .agg #[.int .i64 a1_6, .int .i64 a1_7, .int .i64 a1_8, .int .i64 a1_9, .int .i64 a1_10])) 7 rfl rfl (hon 15 (by kernel_rfl)) rfl
   replace ha := Gv.a0 ha
   have BK296 := Gv.a0 Q_BK296
   have HB := Gv.a0 Q_HB
   have HO302 := Gv.a0 (Q_HO302 (hon 12 (by kernel_rfl)) (hoff 30 (by kernel_rfl)))
   refine goes_ Try.func74 (by kernel_rfl) rfl #[.agg #[.int .i64 a1_6, .int .i64 a1_7, .int .i64 a1_8, .int .i64 a1_9, .int .i64 a1_10]] (by rfl) rfl rfl (by first | (simp only [List.map_toArray, List.map_cons, List.map_nil, Act.eval, Array.getD_eq_getD_getElem?, Option.getD_some, e24]; done) | (simp only [List.map_toArray, List.map_cons, List.map_nil, Act.eval, Array.getD_eq_getD_getElem?, Option.getD_some, e24]; rfl)) ?_
   with_reducible refine (impl_AddrBytes.calls k a1_6 a1_7 a1_8 a1_9 a1_10 t303 _ A4.out).mono ?_
   rintro e w12 ⟨v304, rfl, ho0, hb⟩
   refine ⟨_, rfl, ?_⟩
   have n0_ := Gv.a0 (Kd.R_elder' (by (with_reducible repeat (first | apply Kd.R_alloc | apply Kd.R_drewN | apply Kd.R_drew)); exact HO302.out) (Kd.R_base ho0) hb)
   have n1_ := Gv.a0 (Kd.R_lower (Kd.R_new' ho0 (Kd.R_lt (by (with_reducible repeat (first | apply Kd.R_alloc | apply Kd.R_drewN | apply Kd.R_drew)); exact HO302.out))) (below_size Gv.bw))
   have n2_ := Gv.a0 (blk_below (g := gb296) (o := .cells #[.int .i64 a1_0, .int .i64 a1_1, .int .i64 a1_2, .int .i64 a1_3, .int .i64 a1_4, .int .i64 a1_5, .int .i64 a1_6, .int .i64 a1_7, .int .i64 a1_8, .int .i64 a1_9, .int .i64 a1_10, .int .i64 a1_11, .int .i64 a1_12, .int .i64 a1_13] 33 (0, 0)) Gv.bk hb)
   have n3_ := Gv.a0 (below_step Gv.bw hb)
   have z_HO299 := fun (h0_ : b 8 = true) (h1_ : b 30 = false) => (show Kd.R (Kd.int .u8) 5 w12 w.heap.size (fun _ => True) v298 y297 from by first | exact (Kd.R_elder' (by (with_reducible repeat (first | apply Kd.R_alloc | apply Kd.R_drewN | apply Kd.R_drew)); exact (Q_HO299 h0_ h1_)) (Kd.R_base ho0) hb) | exact Kd.R_mono (Kd.R_elder' (by (with_reducible repeat (first | apply Kd.R_alloc | apply Kd.R_drewN | apply Kd.R_drew)); exact (Q_HO299 h0_ h1_)) (Kd.R_base ho0) hb) (fun _ h_ => by first | trivial | exact h_ | exact h_.1))
   have z_HO308 := fun (h0_ : b 21 = true) (h1_ : b 30 = false) => (show Kd.R (Kd.int .u8) 5 w12 w.heap.size (fun _ => True) v307 y306 from by first | exact (Kd.R_elder' (by (with_reducible repeat (first | apply Kd.R_alloc | apply Kd.R_drewN | apply Kd.R_drew)); exact (Q_HO308 h0_ h1_)) (Kd.R_base ho0) hb) | exact Kd.R_mono (Kd.R_elder' (by (with_reducible repeat (first | apply Kd.R_alloc | apply Kd.R_drewN | apply Kd.R_drew)); exact (Q_HO308 h0_ h1_)) (Kd.R_base ho0) hb) (fun _ h_ => by first | trivial | exact h_ | exact h_.1))
   clear HO302
   clear BK296
   clear HB
   have HO302 := n0_
   have HO305 := n1_
   have BK296 := n2_
   have HB := n3_
   clear n0_ n1_ n2_ n3_
   (try clear hb)
   (try clear hb2)
   (try clear hk)
   (try clear hi)
   (try clear ho0)
   refine hK.out _ _ ⟨v298, v301, v304, v307, v310, v313, v316, v319, m32_, (by rw [ha.out]; exact putSel_upk 8 hb_ rfl rfl rfl), Gv.bk, Gv.bw, z_HO299, fun _ _ => (by (with_reducible repeat (first | apply Kd.R_alloc | apply Kd.R_drewN | apply Kd.R_drew)); exact Kd.R_mono HO302.out (fun _ hk => by first | exact hk.2 | trivial | exact ⟨hk.1.2, hk.2⟩ | exact ⟨trivial, hk.2⟩ | exact hk.1.2 | exact hk | exact ⟨trivial, hk⟩ | exact hk.1 | (simp only [true_and, and_true] at hk ⊢; first | exact hk | exact hk.2 | exact hk.1 | exact ⟨hk.2, hk.1⟩ | omega | (constructor <;> first | exact hk.1 | exact hk.2 | exact hk.1.1 | exact hk.1.2 | exact hk.2.1 | exact hk.2.2)))), fun _ _ => (by (with_reducible repeat (first | apply Kd.R_alloc | apply Kd.R_drewN | apply Kd.R_drew)); exact Kd.R_mono HO305.out (fun _ hk => by first | exact hk.2 | trivial | exact ⟨hk.1.2, hk.2⟩ | exact ⟨trivial, hk.2⟩ | exact hk.1.2 | exact hk | exact ⟨trivial, hk⟩ | exact hk.1 | (simp only [true_and, and_true] at hk ⊢; first | exact hk | exact hk.2 | exact hk.1 | exact ⟨hk.2, hk.1⟩ | omega | (constructor <;> first | exact hk.1 | exact hk.2 | exact hk.1.1 | exact hk.1.2 | exact hk.2.1 | exact hk.2.2)))), z_HO308, fun h0_ _ => absurd ((hoff 25 (by kernel_rfl)).symm.trans h0_) (by decide), fun h0_ _ => absurd ((hoff 29 (by kernel_rfl)).symm.trans h0_) (by decide), fun h0_ => absurd ((hoff 30 (by kernel_rfl)).symm.trans h0_) (by decide), fun h0_ => absurd ((hoff 31 (by kernel_rfl)).symm.trans h0_) (by decide), fun h0_ => absurd ((hoff 32 (by kernel_rfl)).symm.trans h0_) (by decide)⟩
  refine steps_cons ?_ ?_
  ·rintro b a w' ⟨v298, v301, v304, v307, v310, v313, v316, v319, m32_, ha, Q_BK296, Q_HB, Q_HO299, Q_HO302, Q_HO305, Q_HO308, Q_HO311, Q_HO314, Q_HO317, Q_HO320, Q_X32_⟩ hb_ hon hoff
   refine ⟨_, rfl, fun K hK => ?_⟩
   have e27 : a.tmps[27]? = some (.pointer (some ⟨gb296, 11, none⟩)) := by rw [ha]; exact (putSel_off rfl).trans rfl
   replace ha := Gv.a0 ha
   have BK296 := Gv.a0 Q_BK296
   have HB := Gv.a0 Q_HB
   have hc0_ : w'.cell? ⟨gb296, 0, none⟩ = some (.int .i64 a1_0) := (blk_cell BK296.out 0).trans rfl
   have hc1_ : w'.cell? ⟨gb296, 1, none⟩ = some (.int .i64 a1_1) := (blk_cell BK296.out 1).trans rfl
   have hc2_ : w'.cell? ⟨gb296, 2, none⟩ = some (.int .i64 a1_2) := (blk_cell BK296.out 2).trans rfl
   have hc3_ : w'.cell? ⟨gb296, 3, none⟩ = some (.int .i64 a1_3) := (blk_cell BK296.out 3).trans rfl
   have hc4_ : w'.cell? ⟨gb296, 4, none⟩ = some (.int .i64 a1_4) := (blk_cell BK296.out 4).trans rfl
   have hc5_ : w'.cell? ⟨gb296, 5, none⟩ = some (.int .i64 a1_5) := (blk_cell BK296.out 5).trans rfl
   have hc6_ : w'.cell? ⟨gb296, 6, none⟩ = some (.int .i64 a1_6) := (blk_cell BK296.out 6).trans rfl
   have hc7_ : w'.cell? ⟨gb296, 7, none⟩ = some (.int .i64 a1_7) := (blk_cell BK296.out 7).trans rfl
   have hc8_ : w'.cell? ⟨gb296, 8, none⟩ = some (.int .i64 a1_8) := (blk_cell BK296.out 8).trans rfl
   have hc9_ : w'.cell? ⟨gb296, 9, none⟩ = some (.int .i64 a1_9) := (blk_cell BK296.out 9).trans rfl
   have hc10_ : w'.cell? ⟨gb296, 10, none⟩ = some (.int .i64 a1_10) := (blk_cell BK296.out 10).trans rfl
   have hc11_ : w'.cell? ⟨gb296, 11, none⟩ = some (.int .i64 a1_11) := (blk_cell BK296.out 11).trans rfl
   have hc12_ : w'.cell? ⟨gb296, 12, none⟩ = some (.int .i64 a1_12) := (blk_cell BK296.out 12).trans rfl
   have hc13_ : w'.cell? ⟨gb296, 13, none⟩ = some (.int .i64 a1_13) := (blk_cell BK296.out 13).trans rfl
   refine value_ (w1 := w') (v := .int .i64 a1_11) (by rfl) rfl ?_ ?_
   ·go_simp
    (try simp only [i64_w])
    try rfl
   refine hK.out _ _ ⟨v298, v301, v304, v307, v310, v313, v316, v319, m32_, (by rw [ha.out]; exact putSel_upk 9 hb_ rfl rfl rfl), Q_BK296, Q_HB, Q_HO299, Q_HO302, Q_HO305, fun h0_ _ => absurd ((hoff 21 (by kernel_rfl)).symm.trans h0_) (by decide), Q_HO311, Q_HO314, fun h0_ => absurd ((hoff 30 (by kernel_rfl)).symm.trans h0_) (by decide), fun h0_ => absurd ((hoff 31 (by kernel_rfl)).symm.trans h0_) (by decide), fun h0_ => absurd ((hoff 32 (by kernel_rfl)).symm.trans h0_) (by decide)⟩
  refine steps_cons ?_ ?_
  ·rintro b a w' ⟨v298, v301, v304, v307, v310, v313, v316, v319, m32_, ha, Q_BK296, Q_HB, Q_HO299, Q_HO302, Q_HO305, Q_HO308, Q_HO311, Q_HO314, Q_HO317, Q_HO320, Q_X32_⟩ hb_ hon hoff
   refine ⟨_, rfl, fun K hK => ?_⟩
   have e28 : a.tmps[28]? = some (.int .i64 a1_11) := by rw [ha]; exact putSel_on (e := (19, 28, .int .i64 a1_11)) 9 rfl rfl (hon 19 (by kernel_rfl)) rfl
   replace ha := Gv.a0 ha
   have BK296 := Gv.a0 Q_BK296
   have HB := Gv.a0 Q_HB
   refine value_ (w1 := w') (v := .int .u8 ((a1_11) % 256)) (by rfl) rfl ?_ ?_
   ·go_simp
    (try simp only [i64_w])
    try rfl
   refine hK.out _ _ ⟨v298, v301, v304, v307, v310, v313, v316, v319, m32_, (by rw [ha.out]; exact putSel_upk 10 hb_ rfl rfl rfl), Q_BK296, Q_HB, Q_HO299, Q_HO302, Q_HO305, fun h0_ _ => absurd ((hoff 21 (by kernel_rfl)).symm.trans h0_) (by decide), Q_HO311, Q_HO314, fun h0_ => absurd ((hoff 30 (by kernel_rfl)).symm.trans h0_) (by decide), fun h0_ => absurd ((hoff 31 (by kernel_rfl)).symm.trans h0_) (by decide), fun h0_ => absurd ((hoff 32 (by kernel_rfl)).symm.trans h0_) (by decide)⟩
  refine steps_cons ?_ ?_
  ·rintro b a w' ⟨v298, v301, v304, v307, v310, v313, v316, v319, m32_, ha, Q_BK296, Q_HB, Q_HO299, Q_HO302, Q_HO305, Q_HO308, Q_HO311, Q_HO314, Q_HO317, Q_HO320, Q_X32_⟩ hb_ hon hoff
   refine ⟨_, rfl, fun K hK => ?_⟩
   have e29 : a.tmps[29]? = some (.int .u8 ((a1_11) % 256)) := by rw [ha]; exact putSel_on (e := (20, 29, .int .u8 ((a1_11) % 256))) 10 rfl rfl (hon 20 (by kernel_rfl)) rfl
   replace ha := Gv.a0 ha
   have BK296 := Gv.a0 Q_BK296
   have HB := Gv.a0 Q_HB
   refine Kd.R_lit_step (Kd.int .u8) _ 5 ?hg (N := 30) ?hd (xs := ([(a1_11) % 256] : List Int)) (inner := [.int .u8 ((a1_11) % 256)]) (ok := fun _ => True) (okp := fun _ => True) ?hr ?hp (fun _ hk => hk) trivial (Below.refl _ _) (Nat.le_refl _) (by simp) ?_; (case hd => rfl); (case hg => rfl); (case hr => first | (go_simp; done) | (go_simp; rfl)); (case hp => exact (Reps.one (show Kd.M (Kd.int .u8) _ _ _ ((a1_11) % 256) [.int .u8 ((a1_11) % 256)] from rfl) (Reps.none _ _)))
   intro v307 w10 ho11 hb hg_ hnew_
   clear hg_ hnew_
   (first | rw [← Ny306.out] at ho11 | (simp only [Int.reduceToNat] at ho11; rw [← Ny306.out] at ho11))
   have n0_ := Gv.a0 (Kd.R_lower ho11 (below_size Gv.bw))
   have n1_ := Gv.a0 (blk_below (g := gb296) (o := .cells #[.int .i64 a1_0, .int .i64 a1_1, .int .i64 a1_2, .int .i64 a1_3, .int .i64 a1_4, .int .i64 a1_5, .int .i64 a1_6, .int .i64 a1_7, .int .i64 a1_8, .int .i64 a1_9, .int .i64 a1_10, .int .i64 a1_11, .int .i64 a1_12, .int .i64 a1_13] 33 (0, 0)) Gv.bk hb)
   have n2_ := Gv.a0 (below_step Gv.bw hb)
   have z_HO299 := fun (h0_ : b 8 = true) (h1_ : b 30 = false) => (show Kd.R (Kd.int .u8) 5 w10 w.heap.size (fun _ => True) v298 y297 from by first | exact (Kd.R_elder' (by (with_reducible repeat (first | apply Kd.R_alloc | apply Kd.R_drewN | apply Kd.R_drew)); exact (Q_HO299 h0_ h1_)) (Kd.R_base ho11) hb) | exact Kd.R_mono (Kd.R_elder' (by (with_reducible repeat (first | apply Kd.R_alloc | apply Kd.R_drewN | apply Kd.R_drew)); exact (Q_HO299 h0_ h1_)) (Kd.R_base ho11) hb) (fun _ h_ => by first | trivial | exact h_ | exact h_.1))
   have z_HO302 := fun (h0_ : b 12 = true) (h1_ : b 30 = false) => (show Kd.R (Kd.int .u8) 5 w10 w.heap.size (fun _ => True) v301 t300 from by first | exact (Kd.R_elder' (by (with_reducible repeat (first | apply Kd.R_alloc | apply Kd.R_drewN | apply Kd.R_drew)); exact (Q_HO302 h0_ h1_)) (Kd.R_base ho11) hb) | exact Kd.R_mono (Kd.R_elder' (by (with_reducible repeat (first | apply Kd.R_alloc | apply Kd.R_drewN | apply Kd.R_drew)); exact (Q_HO302 h0_ h1_)) (Kd.R_base ho11) hb) (fun _ h_ => by first | trivial | exact h_ | exact h_.1))
   have z_HO305 := fun (h0_ : b 16 = true) (h1_ : b 30 = false) => (show Kd.R (Kd.int .u8) 5 w10 w.heap.size (fun _ => True) v304 t303 from by first | exact (Kd.R_elder' (by (with_reducible repeat (first | apply Kd.R_alloc | apply Kd.R_drewN | apply Kd.R_drew)); exact (Q_HO305 h0_ h1_)) (Kd.R_base ho11) hb) | exact Kd.R_mono (Kd.R_elder' (by (with_reducible repeat (first | apply Kd.R_alloc | apply Kd.R_drewN | apply Kd.R_drew)); exact (Q_HO305 h0_ h1_)) (Kd.R_base ho11) hb) (fun _ h_ => by first | trivial | exact h_ | exact h_.1))
   have z_HO311 := fun (h0_ : b 25 = true) (h1_ : b 30 = false) => (show Kd.R (Kd.int .u8) 5 w10 w.heap.size (fun _ => True) v310 t309 from by first | exact (Kd.R_elder' (by (with_reducible repeat (first | apply Kd.R_alloc | apply Kd.R_drewN | apply Kd.R_drew)); exact (Q_HO311 h0_ h1_)) (Kd.R_base ho11) hb) | exact Kd.R_mono (Kd.R_elder' (by (with_reducible repeat (first | apply Kd.R_alloc | apply Kd.R_drewN | apply Kd.R_drew)); exact (Q_HO311 h0_ h1_)) (Kd.R_base ho11) hb) (fun _ h_ => by first | trivial | exact h_ | exact h_.1))
   have z_HO314 := fun (h0_ : b 29 = true) (h1_ : b 30 = false) => (show Kd.R (Kd.int .u8) 5 w10 w.heap.size (fun _ => True) v313 t312 from by first | exact (Kd.R_elder' (by (with_reducible repeat (first | apply Kd.R_alloc | apply Kd.R_drewN | apply Kd.R_drew)); exact (Q_HO314 h0_ h1_)) (Kd.R_base ho11) hb) | exact Kd.R_mono (Kd.R_elder' (by (with_reducible repeat (first | apply Kd.R_alloc | apply Kd.R_drewN | apply Kd.R_drew)); exact (Q_HO314 h0_ h1_)) (Kd.R_base ho11) hb) (fun _ h_ => by first | trivial | exact h_ | exact h_.1))
   clear BK296
   clear HB
   have HO308 := n0_
   have BK296 := n1_
   have HB := n2_
   clear n0_ n1_ n2_
   clear hb ho11
   refine hK.out _ _ ⟨v298, v301, v304, v307, v310, v313, v316, v319, m32_, (by rw [ha.out]; exact putSel_upk 11 hb_ rfl rfl rfl), Gv.bk, Gv.bw, z_HO299, z_HO302, z_HO305, fun _ _ => (by (with_reducible repeat (first | apply Kd.R_alloc | apply Kd.R_drewN | apply Kd.R_drew)); first | exact HO308.out | exact Kd.R_mono HO308.out (fun _ hk => by first | exact hk.2 | trivial | exact ⟨hk.1.2, hk.2⟩ | exact ⟨trivial, hk.2⟩ | exact hk.1.2 | exact hk | exact ⟨trivial, hk⟩ | exact hk.1 | (simp only [true_and, and_true] at hk ⊢; first | exact hk | exact hk.2 | exact hk.1 | exact ⟨hk.2, hk.1⟩ | omega | (constructor <;> first | exact hk.1 | exact hk.2 | exact hk.1.1 | exact hk.1.2 | exact hk.2.1 | exact hk.2.2)))), z_HO311, z_HO314, fun h0_ => absurd ((hoff 30 (by kernel_rfl)).symm.trans h0_) (by decide), fun h0_ => absurd ((hoff 31 (by kernel_rfl)).symm.trans h0_) (by decide), fun h0_ => absurd ((hoff 32 (by kernel_rfl)).symm.trans h0_) (by decide)⟩
  refine steps_cons ?_ ?_
  ·rintro b a w' ⟨v298, v301, v304, v307, v310, v313, v316, v319, m32_, ha, Q_BK296, Q_HB, Q_HO299, Q_HO302, Q_HO305, Q_HO308, Q_HO311, Q_HO314, Q_HO317, Q_HO320, Q_X32_⟩ hb_ hon hoff
   refine ⟨_, rfl, fun K hK => ?_⟩
   have e32 : a.tmps[32]? = some (.pointer (some ⟨gb296, 12, none⟩)) := by rw [ha]; exact (putSel_off rfl).trans rfl
   replace ha := Gv.a0 ha
   have BK296 := Gv.a0 Q_BK296
   have HB := Gv.a0 Q_HB
   have hc0_ : w'.cell? ⟨gb296, 0, none⟩ = some (.int .i64 a1_0) := (blk_cell BK296.out 0).trans rfl
   have hc1_ : w'.cell? ⟨gb296, 1, none⟩ = some (.int .i64 a1_1) := (blk_cell BK296.out 1).trans rfl
   have hc2_ : w'.cell? ⟨gb296, 2, none⟩ = some (.int .i64 a1_2) := (blk_cell BK296.out 2).trans rfl
   have hc3_ : w'.cell? ⟨gb296, 3, none⟩ = some (.int .i64 a1_3) := (blk_cell BK296.out 3).trans rfl
   have hc4_ : w'.cell? ⟨gb296, 4, none⟩ = some (.int .i64 a1_4) := (blk_cell BK296.out 4).trans rfl
   have hc5_ : w'.cell? ⟨gb296, 5, none⟩ = some (.int .i64 a1_5) := (blk_cell BK296.out 5).trans rfl
   have hc6_ : w'.cell? ⟨gb296, 6, none⟩ = some (.int .i64 a1_6) := (blk_cell BK296.out 6).trans rfl
   have hc7_ : w'.cell? ⟨gb296, 7, none⟩ = some (.int .i64 a1_7) := (blk_cell BK296.out 7).trans rfl
   have hc8_ : w'.cell? ⟨gb296, 8, none⟩ = some (.int .i64 a1_8) := (blk_cell BK296.out 8).trans rfl
   have hc9_ : w'.cell? ⟨gb296, 9, none⟩ = some (.int .i64 a1_9) := (blk_cell BK296.out 9).trans rfl
   have hc10_ : w'.cell? ⟨gb296, 10, none⟩ = some (.int .i64 a1_10) := (blk_cell BK296.out 10).trans rfl
   have hc11_ : w'.cell? ⟨gb296, 11, none⟩ = some (.int .i64 a1_11) := (blk_cell BK296.out 11).trans rfl
   have hc12_ : w'.cell? ⟨gb296, 12, none⟩ = some (.int .i64 a1_12) := (blk_cell BK296.out 12).trans rfl
   have hc13_ : w'.cell? ⟨gb296, 13, none⟩ = some (.int .i64 a1_13) := (blk_cell BK296.out 13).trans rfl
   refine value_ (w1 := w') (v := .int .i64 a1_12) (by rfl) rfl ?_ ?_
   ·go_simp
    (try simp only [i64_w])
    try rfl
   refine hK.out _ _ ⟨v298, v301, v304, v307, v310, v313, v316, v319, m32_, (by rw [ha.out]; exact putSel_upk 12 hb_ rfl rfl rfl), Q_BK296, Q_HB, Q_HO299, Q_HO302, Q_HO305, Q_HO308, fun h0_ _ => absurd ((hoff 25 (by kernel_rfl)).symm.trans h0_) (by decide), fun h0_ _ => absurd ((hoff 29 (by kernel_rfl)).symm.trans h0_) (by decide), fun h0_ => absurd ((hoff 30 (by kernel_rfl)).symm.trans h0_) (by decide), fun h0_ => absurd ((hoff 31 (by kernel_rfl)).symm.trans h0_) (by decide), fun h0_ => absurd ((hoff 32 (by kernel_rfl)).symm.trans h0_) (by decide)⟩
  refine steps_cons ?_ ?_
  ·rintro b a w' ⟨v298, v301, v304, v307, v310, v313, v316, v319, m32_, ha, Q_BK296, Q_HB, Q_HO299, Q_HO302, Q_HO305, Q_HO308, Q_HO311, Q_HO314, Q_HO317, Q_HO320, Q_X32_⟩ hb_ hon hoff
   refine ⟨_, rfl, fun K hK => ?_⟩
   have e33 : a.tmps[33]? = some (.int .i64 a1_12) := by rw [ha]; exact putSel_on (e := (24, 33, .int .i64 a1_12)) 12 rfl rfl (hon 24 (by kernel_rfl)) rfl
   replace ha := Gv.a0 ha
   have BK296 := Gv.a0 Q_BK296
   have HB := Gv.a0 Q_HB
   have HO302 := Gv.a0 (Q_HO302 (hon 12 (by kernel_rfl)) (hoff 30 (by kernel_rfl)))
   have HO305 := Gv.a0 (Q_HO305 (hon 16 (by kernel_rfl)) (hoff 30 (by kernel_rfl)))
   refine goes_ Try.func75 (by kernel_rfl) rfl #[.int .i64 a1_12] (by rfl) rfl rfl (by first | (simp only [List.map_toArray, List.map_cons, List.map_nil, Act.eval, Array.getD_eq_getD_getElem?, Option.getD_some, e33]; done) | (simp only [List.map_toArray, List.map_cons, List.map_nil, Act.eval, Array.getD_eq_getD_getElem?, Option.getD_some, e33]; rfl)) ?_
   with_reducible refine (impl_Put16.calls k a1_12 t309 _ A5.out).mono ?_
   rintro e w13 ⟨v310, rfl, ho0, hb⟩
   refine ⟨_, rfl, ?_⟩
   have n0_ := Gv.a0 (Kd.R_elder' (by (with_reducible repeat (first | apply Kd.R_alloc | apply Kd.R_drewN | apply Kd.R_drew)); exact HO302.out) (Kd.R_base ho0) hb)
   have n1_ := Gv.a0 (Kd.R_elder' (by (with_reducible repeat (first | apply Kd.R_alloc | apply Kd.R_drewN | apply Kd.R_drew)); exact HO305.out) (Kd.R_base ho0) hb)
   have n2_ := Gv.a0 (Kd.R_lower (Kd.R_new' (Kd.R_new' ho0 (Kd.R_lt (by (with_reducible repeat (first | apply Kd.R_alloc | apply Kd.R_drewN | apply Kd.R_drew)); exact HO302.out))) (Kd.R_lt (by (with_reducible repeat (first | apply Kd.R_alloc | apply Kd.R_drewN | apply Kd.R_drew)); exact HO305.out))) (below_size Gv.bw))
   have n3_ := Gv.a0 (blk_below (g := gb296) (o := .cells #[.int .i64 a1_0, .int .i64 a1_1, .int .i64 a1_2, .int .i64 a1_3, .int .i64 a1_4, .int .i64 a1_5, .int .i64 a1_6, .int .i64 a1_7, .int .i64 a1_8, .int .i64 a1_9, .int .i64 a1_10, .int .i64 a1_11, .int .i64 a1_12, .int .i64 a1_13] 33 (0, 0)) Gv.bk hb)
   have n4_ := Gv.a0 (below_step Gv.bw hb)
   have z_HO299 := fun (h0_ : b 8 = true) (h1_ : b 30 = false) => (show Kd.R (Kd.int .u8) 5 w13 w.heap.size (fun _ => True) v298 y297 from by first | exact (Kd.R_elder' (by (with_reducible repeat (first | apply Kd.R_alloc | apply Kd.R_drewN | apply Kd.R_drew)); exact (Q_HO299 h0_ h1_)) (Kd.R_base ho0) hb) | exact Kd.R_mono (Kd.R_elder' (by (with_reducible repeat (first | apply Kd.R_alloc | apply Kd.R_drewN | apply Kd.R_drew)); exact (Q_HO299 h0_ h1_)) (Kd.R_base ho0) hb) (fun _ h_ => by first | trivial | exact h_ | exact h_.1))
   have z_HO308 := fun (h0_ : b 21 = true) (h1_ : b 30 = false) => (show Kd.R (Kd.int .u8) 5 w13 w.heap.size (fun _ => True) v307 y306 from by first | exact (Kd.R_elder' (by (with_reducible repeat (first | apply Kd.R_alloc | apply Kd.R_drewN | apply Kd.R_drew)); exact (Q_HO308 h0_ h1_)) (Kd.R_base ho0) hb) | exact Kd.R_mono (Kd.R_elder' (by (with_reducible repeat (first | apply Kd.R_alloc | apply Kd.R_drewN | apply Kd.R_drew)); exact (Q_HO308 h0_ h1_)) (Kd.R_base ho0) hb) (fun _ h_ => by first | trivial | exact h_ | exact h_.1))
   clear HO302
   clear HO305
   clear BK296
   clear HB
   have HO302 := n0_
   have HO305 := n1_
   have HO311 := n2_
   have BK296 := n3_
   have HB := n4_
   clear n0_ n1_ n2_ n3_ n4_
   (try clear hb)
   (try clear hb2)
   (try clear hk)
   (try clear hi)
   (try clear ho0)
   refine hK.out _ _ ⟨v298, v301, v304, v307, v310, v313, v316, v319, m32_, (by rw [ha.out]; exact putSel_upk 13 hb_ rfl rfl rfl), Gv.bk, Gv.bw, z_HO299, fun _ _ => (by (with_reducible repeat (first | apply Kd.R_alloc | apply Kd.R_drewN | apply Kd.R_drew)); first | exact HO302.out | exact Kd.R_mono HO302.out (fun _ hk => by first | exact hk.2 | trivial | exact ⟨hk.1.2, hk.2⟩ | exact ⟨trivial, hk.2⟩ | exact hk.1.2 | exact hk | exact ⟨trivial, hk⟩ | exact hk.1 | (simp only [true_and, and_true] at hk ⊢; first | exact hk | exact hk.2 | exact hk.1 | exact ⟨hk.2, hk.1⟩ | omega | (constructor <;> first | exact hk.1 | exact hk.2 | exact hk.1.1 | exact hk.1.2 | exact hk.2.1 | exact hk.2.2)))), fun _ _ => (by (with_reducible repeat (first | apply Kd.R_alloc | apply Kd.R_drewN | apply Kd.R_drew)); first | exact HO305.out | exact Kd.R_mono HO305.out (fun _ hk => by first | exact hk.2 | trivial | exact ⟨hk.1.2, hk.2⟩ | exact ⟨trivial, hk.2⟩ | exact hk.1.2 | exact hk | exact ⟨trivial, hk⟩ | exact hk.1 | (simp only [true_and, and_true] at hk ⊢; first | exact hk | exact hk.2 | exact hk.1 | exact ⟨hk.2, hk.1⟩ | omega | (constructor <;> first | exact hk.1 | exact hk.2 | exact hk.1.1 | exact hk.1.2 | exact hk.2.1 | exact hk.2.2)))), z_HO308, fun _ _ => (by (with_reducible repeat (first | apply Kd.R_alloc | apply Kd.R_drewN | apply Kd.R_drew)); exact Kd.R_mono HO311.out (fun _ hk => by first | exact hk.2 | trivial | exact ⟨hk.1.2, hk.2⟩ | exact ⟨trivial, hk.2⟩ | exact hk.1.2 | exact hk | exact ⟨trivial, hk⟩ | exact hk.1 | (simp only [true_and, and_true] at hk ⊢; first | exact hk | exact hk.2 | exact hk.1 | exact ⟨hk.2, hk.1⟩ | omega | (constructor <;> first | exact hk.1 | exact hk.2 | exact hk.1.1 | exact hk.1.2 | exact hk.2.1 | exact hk.2.2)))), fun h0_ _ => absurd ((hoff 29 (by kernel_rfl)).symm.trans h0_) (by decide), fun h0_ => absurd ((hoff 30 (by kernel_rfl)).symm.trans h0_) (by decide), fun h0_ => absurd ((hoff 31 (by kernel_rfl)).symm.trans h0_) (by decide), fun h0_ => absurd ((hoff 32 (by kernel_rfl)).symm.trans h0_) (by decide)⟩
  refine steps_cons ?_ ?_
  ·rintro b a w' ⟨v298, v301, v304, v307, v310, v313, v316, v319, m32_, ha, Q_BK296, Q_HB, Q_HO299, Q_HO302, Q_HO305, Q_HO308, Q_HO311, Q_HO314, Q_HO317, Q_HO320, Q_X32_⟩ hb_ hon hoff
   refine ⟨_, rfl, fun K hK => ?_⟩
   have e36 : a.tmps[36]? = some (.pointer (some ⟨gb296, 13, none⟩)) := by rw [ha]; exact (putSel_off rfl).trans rfl
   replace ha := Gv.a0 ha
   have BK296 := Gv.a0 Q_BK296
   have HB := Gv.a0 Q_HB
   have hc0_ : w'.cell? ⟨gb296, 0, none⟩ = some (.int .i64 a1_0) := (blk_cell BK296.out 0).trans rfl
   have hc1_ : w'.cell? ⟨gb296, 1, none⟩ = some (.int .i64 a1_1) := (blk_cell BK296.out 1).trans rfl
   have hc2_ : w'.cell? ⟨gb296, 2, none⟩ = some (.int .i64 a1_2) := (blk_cell BK296.out 2).trans rfl
   have hc3_ : w'.cell? ⟨gb296, 3, none⟩ = some (.int .i64 a1_3) := (blk_cell BK296.out 3).trans rfl
   have hc4_ : w'.cell? ⟨gb296, 4, none⟩ = some (.int .i64 a1_4) := (blk_cell BK296.out 4).trans rfl
   have hc5_ : w'.cell? ⟨gb296, 5, none⟩ = some (.int .i64 a1_5) := (blk_cell BK296.out 5).trans rfl
   have hc6_ : w'.cell? ⟨gb296, 6, none⟩ = some (.int .i64 a1_6) := (blk_cell BK296.out 6).trans rfl
   have hc7_ : w'.cell? ⟨gb296, 7, none⟩ = some (.int .i64 a1_7) := (blk_cell BK296.out 7).trans rfl
   have hc8_ : w'.cell? ⟨gb296, 8, none⟩ = some (.int .i64 a1_8) := (blk_cell BK296.out 8).trans rfl
   have hc9_ : w'.cell? ⟨gb296, 9, none⟩ = some (.int .i64 a1_9) := (blk_cell BK296.out 9).trans rfl
   have hc10_ : w'.cell? ⟨gb296, 10, none⟩ = some (.int .i64 a1_10) := (blk_cell BK296.out 10).trans rfl
   have hc11_ : w'.cell? ⟨gb296, 11, none⟩ = some (.int .i64 a1_11) := (blk_cell BK296.out 11).trans rfl
   have hc12_ : w'.cell? ⟨gb296, 12, none⟩ = some (.int .i64 a1_12) := (blk_cell BK296.out 12).trans rfl
   have hc13_ : w'.cell? ⟨gb296, 13, none⟩ = some (.int .i64 a1_13) := (blk_cell BK296.out 13).trans rfl
   refine value_ (w1 := w') (v := .int .i64 a1_13) (by rfl) rfl ?_ ?_
   ·go_simp
    (try simp only [i64_w])
    try rfl
   refine hK.out _ _ ⟨v298, v301, v304, v307, v310, v313, v316, v319, m32_, (by rw [ha.out]; exact putSel_upk 14 hb_ rfl rfl rfl), Q_BK296, Q_HB, Q_HO299, Q_HO302, Q_HO305, Q_HO308, Q_HO311, fun h0_ _ => absurd ((hoff 29 (by kernel_rfl)).symm.trans h0_) (by decide), fun h0_ => absurd ((hoff 30 (by kernel_rfl)).symm.trans h0_) (by decide), fun h0_ => absurd ((hoff 31 (by kernel_rfl)).symm.trans h0_) (by decide), fun h0_ => absurd ((hoff 32 (by kernel_rfl)).symm.trans h0_) (by decide)⟩
  refine steps_cons ?_ ?_
  ·rintro b a w' ⟨v298, v301, v304, v307, v310, v313, v316, v319, m32_, ha, Q_BK296, Q_HB, Q_HO299, Q_HO302, Q_HO305, Q_HO308, Q_HO311, Q_HO314, Q_HO317, Q_HO320, Q_X32_⟩ hb_ hon hoff
   refine ⟨_, rfl, fun K hK => ?_⟩
   have e37 : a.tmps[37]? = some (.int .i64 a1_13) := by rw [ha]; exact putSel_on (e := (28, 37, .int .i64 a1_13)) 14 rfl rfl (hon 28 (by kernel_rfl)) rfl
   replace ha := Gv.a0 ha
   have BK296 := Gv.a0 Q_BK296
   have HB := Gv.a0 Q_HB
   have HO302 := Gv.a0 (Q_HO302 (hon 12 (by kernel_rfl)) (hoff 30 (by kernel_rfl)))
   have HO305 := Gv.a0 (Q_HO305 (hon 16 (by kernel_rfl)) (hoff 30 (by kernel_rfl)))
   have HO311 := Gv.a0 (Q_HO311 (hon 25 (by kernel_rfl)) (hoff 30 (by kernel_rfl)))
   refine goes_ Try.func75 (by kernel_rfl) rfl #[.int .i64 a1_13] (by rfl) rfl rfl (by first | (simp only [List.map_toArray, List.map_cons, List.map_nil, Act.eval, Array.getD_eq_getD_getElem?, Option.getD_some, e37]; done) | (simp only [List.map_toArray, List.map_cons, List.map_nil, Act.eval, Array.getD_eq_getD_getElem?, Option.getD_some, e37]; rfl)) ?_
   with_reducible refine (impl_Put16.calls k a1_13 t312 _ A6.out).mono ?_
   rintro e w14 ⟨v313, rfl, ho0, hb⟩
   refine ⟨_, rfl, ?_⟩
   have n0_ := Gv.a0 (Kd.R_elder' (by (with_reducible repeat (first | apply Kd.R_alloc | apply Kd.R_drewN | apply Kd.R_drew)); exact HO302.out) (Kd.R_base ho0) hb)
   have n1_ := Gv.a0 (Kd.R_elder' (by (with_reducible repeat (first | apply Kd.R_alloc | apply Kd.R_drewN | apply Kd.R_drew)); exact HO305.out) (Kd.R_base ho0) hb)
   have n2_ := Gv.a0 (Kd.R_elder' (by (with_reducible repeat (first | apply Kd.R_alloc | apply Kd.R_drewN | apply Kd.R_drew)); exact HO311.out) (Kd.R_base ho0) hb)
   have n3_ := Gv.a0 (Kd.R_lower (Kd.R_new' (Kd.R_new' (Kd.R_new' ho0 (Kd.R_lt (by (with_reducible repeat (first | apply Kd.R_alloc | apply Kd.R_drewN | apply Kd.R_drew)); exact HO302.out))) (Kd.R_lt (by (with_reducible repeat (first | apply Kd.R_alloc | apply Kd.R_drewN | apply Kd.R_drew)); exact HO305.out))) (Kd.R_lt (by (with_reducible repeat (first | apply Kd.R_alloc | apply Kd.R_drewN | apply Kd.R_drew)); exact HO311.out))) (below_size Gv.bw))
   have n4_ := Gv.a0 (blk_below (g := gb296) (o := .cells #[.int .i64 a1_0, .int .i64 a1_1, .int .i64 a1_2, .int .i64 a1_3, .int .i64 a1_4, .int .i64 a1_5, .int .i64 a1_6, .int .i64 a1_7, .int .i64 a1_8, .int .i64 a1_9, .int .i64 a1_10, .int .i64 a1_11, .int .i64 a1_12, .int .i64 a1_13] 33 (0, 0)) Gv.bk hb)
   have n5_ := Gv.a0 (below_step Gv.bw hb)
   have z_HO299 := fun (h0_ : b 8 = true) (h1_ : b 30 = false) => (show Kd.R (Kd.int .u8) 5 w14 w.heap.size (fun _ => True) v298 y297 from by first | exact (Kd.R_elder' (by (with_reducible repeat (first | apply Kd.R_alloc | apply Kd.R_drewN | apply Kd.R_drew)); exact (Q_HO299 h0_ h1_)) (Kd.R_base ho0) hb) | exact Kd.R_mono (Kd.R_elder' (by (with_reducible repeat (first | apply Kd.R_alloc | apply Kd.R_drewN | apply Kd.R_drew)); exact (Q_HO299 h0_ h1_)) (Kd.R_base ho0) hb) (fun _ h_ => by first | trivial | exact h_ | exact h_.1))
   have z_HO308 := fun (h0_ : b 21 = true) (h1_ : b 30 = false) => (show Kd.R (Kd.int .u8) 5 w14 w.heap.size (fun _ => True) v307 y306 from by first | exact (Kd.R_elder' (by (with_reducible repeat (first | apply Kd.R_alloc | apply Kd.R_drewN | apply Kd.R_drew)); exact (Q_HO308 h0_ h1_)) (Kd.R_base ho0) hb) | exact Kd.R_mono (Kd.R_elder' (by (with_reducible repeat (first | apply Kd.R_alloc | apply Kd.R_drewN | apply Kd.R_drew)); exact (Q_HO308 h0_ h1_)) (Kd.R_base ho0) hb) (fun _ h_ => by first | trivial | exact h_ | exact h_.1))
   clear HO302
   clear HO305
   clear HO311
   clear BK296
   clear HB
   have HO302 := n0_
   have HO305 := n1_
   have HO311 := n2_
   have HO314 := n3_
   have BK296 := n4_
   have HB := n5_
   clear n0_ n1_ n2_ n3_ n4_ n5_
   (try clear hb)
   (try clear hb2)
   (try clear hk)
   (try clear hi)
   (try clear ho0)
   refine hK.out _ _ ⟨v298, v301, v304, v307, v310, v313, v316, v319, m32_, (by rw [ha.out]; exact putSel_upk 15 hb_ rfl rfl rfl), Gv.bk, Gv.bw, z_HO299, fun _ _ => (by (with_reducible repeat (first | apply Kd.R_alloc | apply Kd.R_drewN | apply Kd.R_drew)); exact Kd.R_mono HO302.out (fun _ hk => by first | exact hk.2 | trivial | exact ⟨hk.1.2, hk.2⟩ | exact ⟨trivial, hk.2⟩ | exact hk.1.2 | exact hk | exact ⟨trivial, hk⟩ | exact hk.1 | (simp only [true_and, and_true] at hk ⊢; first | exact hk | exact hk.2 | exact hk.1 | exact ⟨hk.2, hk.1⟩ | omega | (constructor <;> first | exact hk.1 | exact hk.2 | exact hk.1.1 | exact hk.1.2 | exact hk.2.1 | exact hk.2.2)))), fun _ _ => (by (with_reducible repeat (first | apply Kd.R_alloc | apply Kd.R_drewN | apply Kd.R_drew)); exact Kd.R_mono HO305.out (fun _ hk => by first | exact hk.2 | trivial | exact ⟨hk.1.2, hk.2⟩ | exact ⟨trivial, hk.2⟩ | exact hk.1.2 | exact hk | exact ⟨trivial, hk⟩ | exact hk.1 | (simp only [true_and, and_true] at hk ⊢; first | exact hk | exact hk.2 | exact hk.1 | exact ⟨hk.2, hk.1⟩ | omega | (constructor <;> first | exact hk.1 | exact hk.2 | exact hk.1.1 | exact hk.1.2 | exact hk.2.1 | exact hk.2.2)))), z_HO308, fun _ _ => (by (with_reducible repeat (first | apply Kd.R_alloc | apply Kd.R_drewN | apply Kd.R_drew)); exact Kd.R_mono HO311.out (fun _ hk => by first | exact hk.2 | trivial | exact ⟨hk.1.2, hk.2⟩ | exact ⟨trivial, hk.2⟩ | exact hk.1.2 | exact hk | exact ⟨trivial, hk⟩ | exact hk.1 | (simp only [true_and, and_true] at hk ⊢; first | exact hk | exact hk.2 | exact hk.1 | exact ⟨hk.2, hk.1⟩ | omega | (constructor <;> first | exact hk.1 | exact hk.2 | exact hk.1.1 | exact hk.1.2 | exact hk.2.1 | exact hk.2.2)))), fun _ _ => (by (with_reducible repeat (first | apply Kd.R_alloc | apply Kd.R_drewN | apply Kd.R_drew)); exact Kd.R_mono HO314.out (fun _ hk => by first | exact hk.2 | trivial | exact ⟨hk.1.2, hk.2⟩ | exact ⟨trivial, hk.2⟩ | exact hk.1.2 | exact hk | exact ⟨trivial, hk⟩ | exact hk.1 | (simp only [true_and, and_true] at hk ⊢; first | exact hk | exact hk.2 | exact hk.1 | exact ⟨hk.2, hk.1⟩ | omega | (constructor <;> first | exact hk.1 | exact hk.2 | exact hk.1.1 | exact hk.1.2 | exact hk.2.1 | exact hk.2.2)))), fun h0_ => absurd ((hoff 30 (by kernel_rfl)).symm.trans h0_) (by decide), fun h0_ => absurd ((hoff 31 (by kernel_rfl)).symm.trans h0_) (by decide), fun h0_ => absurd ((hoff 32 (by kernel_rfl)).symm.trans h0_) (by decide)⟩
  refine steps_cons ?_ ?_
  ·rintro b a w' ⟨v298, v301, v304, v307, v310, v313, v316, v319, m32_, ha, Q_BK296, Q_HB, Q_HO299, Q_HO302, Q_HO305, Q_HO308, Q_HO311, Q_HO314, Q_HO317, Q_HO320, Q_X32_⟩ hb_ hon hoff
   refine ⟨_, rfl, fun K hK => ?_⟩
   have e17 : a.tmps[17]? = some (v298) := by rw [ha]; exact putSel_on (e := (8, 17, v298)) 4 rfl rfl (hon 8 (by kernel_rfl)) rfl
   have e21 : a.tmps[21]? = some (v301) := by rw [ha]; exact putSel_on (e := (12, 21, v301)) 6 rfl rfl (hon 12 (by kernel_rfl)) rfl
   have e25 : a.tmps[25]? = some (v304) := by rw [ha]; exact putSel_on (e := (16, 25, v304)) 8 rfl rfl (hon 16 (by kernel_rfl)) rfl
   have e30 : a.tmps[30]? = some (v307) := by rw [ha]; exact putSel_on (e := (21, 30, v307)) 11 rfl rfl (hon 21 (by kernel_rfl)) rfl
   have e34 : a.tmps[34]? = some (v310) := by rw [ha]; exact putSel_on (e := (25, 34, v310)) 13 rfl rfl (hon 25 (by kernel_rfl)) rfl
   have e38 : a.tmps[38]? = some (v313) := by rw [ha]; exact putSel_on (e := (29, 38, v313)) 15 rfl rfl (hon 29 (by kernel_rfl)) rfl
   replace ha := Gv.a0 ha
   have BK296 := Gv.a0 Q_BK296
   have HB := Gv.a0 Q_HB
   have HO299 := Gv.a0 (Q_HO299 (hon 8 (by kernel_rfl)) hb_)
   have HO302 := Gv.a0 (Q_HO302 (hon 12 (by kernel_rfl)) hb_)
   have HO305 := Gv.a0 (Q_HO305 (hon 16 (by kernel_rfl)) hb_)
   have HO308 := Gv.a0 (Q_HO308 (hon 21 (by kernel_rfl)) hb_)
   have HO311 := Gv.a0 (Q_HO311 (hon 25 (by kernel_rfl)) hb_)
   have HO314 := Gv.a0 (Q_HO314 (hon 29 (by kernel_rfl)) hb_)
   obtain ⟨Ao19, co19, eo19⟩ := Kd.R_slice HO299.out
   (first | subst eo19 | (injection eo19 with f1_ f2_ f3_; have f4_ := f1_.symm; have f5_ := f3_.symm; clear f1_ f2_ f3_; subst f4_; subst f5_))
   obtain ⟨Ao20, co20, eo20⟩ := Kd.R_slice HO302.out
   (first | subst eo20 | (injection eo20 with f1_ f2_ f3_; have f4_ := f1_.symm; have f5_ := f3_.symm; clear f1_ f2_ f3_; subst f4_; subst f5_))
   obtain ⟨Ao21, co21, eo21⟩ := Kd.R_slice HO305.out
   (first | subst eo21 | (injection eo21 with f1_ f2_ f3_; have f4_ := f1_.symm; have f5_ := f3_.symm; clear f1_ f2_ f3_; subst f4_; subst f5_))
   obtain ⟨Ao22, co22, eo22⟩ := Kd.R_slice HO308.out
   (first | subst eo22 | (injection eo22 with f1_ f2_ f3_; have f4_ := f1_.symm; have f5_ := f3_.symm; clear f1_ f2_ f3_; subst f4_; subst f5_))
   obtain ⟨Ao23, co23, eo23⟩ := Kd.R_slice HO311.out
   (first | subst eo23 | (injection eo23 with f1_ f2_ f3_; have f4_ := f1_.symm; have f5_ := f3_.symm; clear f1_ f2_ f3_; subst f4_; subst f5_))
   obtain ⟨Ao24, co24, eo24⟩ := Kd.R_slice HO314.out
   (first | subst eo24 | (injection eo24 with f1_ f2_ f3_; have f4_ := f1_.symm; have f5_ := f3_.symm; clear f1_ f2_ f3_; subst f4_; subst f5_))
   refine Kd.N_lit_step (Kd.slice 5 (Kd.int .u8)) _ 68 ?hg (N' := 39) ?hd (xs := ([y297, t300, t303, y306, t309, t312] : List (List Int))) (inner := [.slice Ao19 y297.length co19, .slice Ao20 t300.length co20, .slice Ao21 t303.length co21, .slice Ao22 y306.length co22, .slice Ao23 t309.length co23, .slice Ao24 t312.length co24]) (ok := (fun k_ => k_ ≠ gb296)) (okp := (fun k_ => k_ ≠ gb296)) ?hr ?hp (fun _ hk => hk) ((show ∀ k_, w'.heap.size ≤ k_ → (fun k_ => k_ ≠ gb296) k_ from fun k_ hk => Kd.freshB (g := gb296) (o := .cells #[.int .i64 a1_0, .int .i64 a1_1, .int .i64 a1_2, .int .i64 a1_3, .int .i64 a1_4, .int .i64 a1_5, .int .i64 a1_6, .int .i64 a1_7, .int .i64 a1_8, .int .i64 a1_9, .int .i64 a1_10, .int .i64 a1_11, .int .i64 a1_12, .int .i64 a1_13] 33 (0, 0)) Gv.bk k_ hk) _ (Nat.le_refl _)) (Below.refl _ _) (Nat.le_refl _) (by simp) ?_; (case hd => rfl); (case hg => rfl); (case hr => first | (go_simp; done) | (go_simp; rfl)); (case hp => exact (Reps.one (show Kd.FK (Kd.slice 5 (Kd.int .u8)) _ _ y297 [.slice Ao19 y297.length co19] from (Kd.FK_slice_mk (Kd.R_reads' (Kd.R_mono (ok' := (fun k_ => k_ ≠ gb296)) (Kd.R_types (HO299.out) BK296.out (by decide)) (fun k_ hk => hk.2))).2.1 (Kd.R_F (Kd.R_mono (ok' := (fun k_ => k_ ≠ gb296)) (Kd.R_types (HO299.out) BK296.out (by decide)) (fun k_ hk => hk.2))))) (Reps.one (show Kd.FK (Kd.slice 5 (Kd.int .u8)) _ _ t300 [.slice Ao20 t300.length co20] from (Kd.FK_slice_mk (Kd.R_reads' (Kd.R_mono (ok' := (fun k_ => k_ ≠ gb296)) (Kd.R_types (HO302.out) BK296.out (by decide)) (fun k_ hk => hk.2))).2.1 (Kd.R_F (Kd.R_mono (ok' := (fun k_ => k_ ≠ gb296)) (Kd.R_types (HO302.out) BK296.out (by decide)) (fun k_ hk => hk.2))))) (Reps.one (show Kd.FK (Kd.slice 5 (Kd.int .u8)) _ _ t303 [.slice Ao21 t303.length co21] from (Kd.FK_slice_mk (Kd.R_reads' (Kd.R_mono (ok' := (fun k_ => k_ ≠ gb296)) (Kd.R_types (HO305.out) BK296.out (by decide)) (fun k_ hk => hk.2))).2.1 (Kd.R_F (Kd.R_mono (ok' := (fun k_ => k_ ≠ gb296)) (Kd.R_types (HO305.out) BK296.out (by decide)) (fun k_ hk => hk.2))))) (Reps.one (show Kd.FK (Kd.slice 5 (Kd.int .u8)) _ _ y306 [.slice Ao22 y306.length co22] from (Kd.FK_slice_mk (Kd.R_reads' (Kd.R_mono (ok' := (fun k_ => k_ ≠ gb296)) (Kd.R_types (HO308.out) BK296.out (by decide)) (fun k_ hk => hk.2))).2.1 (Kd.R_F (Kd.R_mono (ok' := (fun k_ => k_ ≠ gb296)) (Kd.R_types (HO308.out) BK296.out (by decide)) (fun k_ hk => hk.2))))) (Reps.one (show Kd.FK (Kd.slice 5 (Kd.int .u8)) _ _ t309 [.slice Ao23 t309.length co23] from (Kd.FK_slice_mk (Kd.R_reads' (Kd.R_mono (ok' := (fun k_ => k_ ≠ gb296)) (Kd.R_types (HO311.out) BK296.out (by decide)) (fun k_ hk => hk.2))).2.1 (Kd.R_F (Kd.R_mono (ok' := (fun k_ => k_ ≠ gb296)) (Kd.R_types (HO311.out) BK296.out (by decide)) (fun k_ hk => hk.2))))) (Reps.one (show Kd.FK (Kd.slice 5 (Kd.int .u8)) _ _ t312 [.slice Ao24 t312.length co24] from (Kd.FK_slice_mk (Kd.R_reads' (Kd.R_mono (ok' := (fun k_ => k_ ≠ gb296)) (Kd.R_types (HO314.out) BK296.out (by decide)) (fun k_ hk => hk.2))).2.1 (Kd.R_F (Kd.R_mono (ok' := (fun k_ => k_ ≠ gb296)) (Kd.R_types (HO314.out) BK296.out (by decide)) (fun k_ hk => hk.2))))) (Reps.none _ _))))))))
   intro v316 w25 ho26 hb hg_ hnew_
   clear hg_ hnew_
   (first | rw [← Ny315.out] at ho26 | (simp only [Int.reduceToNat] at ho26; rw [← Ny315.out] at ho26))
   have n0_ := Gv.a0 (Kd.N_lower ho26 (below_size Gv.bw))
   have n1_ := Gv.a0 (blk_below (g := gb296) (o := .cells #[.int .i64 a1_0, .int .i64 a1_1, .int .i64 a1_2, .int .i64 a1_3, .int .i64 a1_4, .int .i64 a1_5, .int .i64 a1_6, .int .i64 a1_7, .int .i64 a1_8, .int .i64 a1_9, .int .i64 a1_10, .int .i64 a1_11, .int .i64 a1_12, .int .i64 a1_13] 33 (0, 0)) Gv.bk hb)
   have n2_ := Gv.a0 (below_step Gv.bw hb)
   clear BK296
   clear HB
   clear HO299
   clear HO302
   clear HO305
   clear HO308
   clear HO311
   clear HO314
   have HO317 := n0_
   have BK296 := n1_
   have HB := n2_
   clear n0_ n1_ n2_
   clear hb ho26
   refine hK.out _ _ ⟨.slice Ao19 y297.length co19, .slice Ao20 t300.length co20, .slice Ao21 t303.length co21, .slice Ao22 y306.length co22, .slice Ao23 t309.length co23, .slice Ao24 t312.length co24, v316, v319, m32_, (by rw [ha.out]; exact putSel_upk 16 hb_ rfl rfl rfl), Gv.bk, Gv.bw, fun _ h1_ => absurd ((up_self b 30).symm.trans h1_) (by decide), fun _ h1_ => absurd ((up_self b 30).symm.trans h1_) (by decide), fun _ h1_ => absurd ((up_self b 30).symm.trans h1_) (by decide), fun _ h1_ => absurd ((up_self b 30).symm.trans h1_) (by decide), fun _ h1_ => absurd ((up_self b 30).symm.trans h1_) (by decide), fun _ h1_ => absurd ((up_self b 30).symm.trans h1_) (by decide), fun _ => (by (with_reducible repeat (first | apply Kd.N_alloc | apply Kd.N_drewN | apply Kd.N_drew)); first | exact HO317.out | exact Kd.R_mono HO317.out (fun _ hk => by first | exact hk.2 | trivial | exact ⟨hk.1.2, hk.2⟩ | exact ⟨trivial, hk.2⟩ | exact hk.1.2 | exact hk | exact ⟨trivial, hk⟩ | exact hk.1 | (simp only [true_and, and_true] at hk ⊢; first | exact hk | exact hk.2 | exact hk.1 | exact ⟨hk.2, hk.1⟩ | omega | (constructor <;> first | exact hk.1 | exact hk.2 | exact hk.1.1 | exact hk.1.2 | exact hk.2.1 | exact hk.2.2)))), fun h0_ => absurd ((hoff 31 (by kernel_rfl)).symm.trans h0_) (by decide), fun h0_ => absurd ((hoff 32 (by kernel_rfl)).symm.trans h0_) (by decide)⟩
  refine steps_cons ?_ ?_
  ·rintro b a w' ⟨v298, v301, v304, v307, v310, v313, v316, v319, m32_, ha, Q_BK296, Q_HB, Q_HO299, Q_HO302, Q_HO305, Q_HO308, Q_HO311, Q_HO314, Q_HO317, Q_HO320, Q_X32_⟩ hb_ hon hoff
   refine ⟨_, rfl, fun K hK => ?_⟩
   have e39 : a.tmps[39]? = some (v316) := by rw [ha]; exact putSel_on (e := (30, 39, v316)) 16 rfl rfl (hon 30 (by kernel_rfl)) rfl
   replace ha := Gv.a0 ha
   have BK296 := Gv.a0 Q_BK296
   have HB := Gv.a0 Q_HB
   have HO317 := Gv.a0 (Q_HO317 (hon 30 (by kernel_rfl)))
   obtain ⟨Ao27, co27, eo27⟩ := Kd.N_slice HO317.out
   (first | subst eo27 | (injection eo27 with f1_ f2_ f3_; have f4_ := f1_.symm; have f5_ := f3_.symm; clear f1_ f2_ f3_; subst f4_; subst f5_))
   refine goes_ Try.func73 (by kernel_rfl) rfl #[.slice Ao27 y315.length co27] (by rfl) rfl rfl (by first | (simp only [List.map_toArray, List.map_cons, List.map_nil, Act.eval, Array.getD_eq_getD_getElem?, Option.getD_some, e39]; done) | (simp only [List.map_toArray, List.map_cons, List.map_nil, Act.eval, Array.getD_eq_getD_getElem?, Option.getD_some, e39]; rfl)) ?_
   with_reducible refine (slices_Concat_byte_byte.calls k _ _ y315 t318 _ ?side1 ?side2 A7.out).mono ?_
   (case side1 => repeat (first | exact (Kd.N_reads' HO317.out).2.2 | (with_reducible refine Kd.C_alloc ?_ _) | (with_reducible refine Kd.C_drewN ?_ _) | (with_reducible refine Kd.C_drew ?_)))
   (case side2 => exact (Kd.N_reads' HO317.out).2.1)
   rintro e w28 ⟨v319, rfl, ho0, hb⟩
   refine ⟨_, rfl, ?_⟩
   have n0_ := Gv.a0 (Kd.N_elder' (by (with_reducible repeat (first | apply Kd.N_alloc | apply Kd.N_drewN | apply Kd.N_drew)); exact HO317.out) (Kd.R_base ho0) hb)
   have n1_ := Gv.a0 (Kd.R_lower ho0 (below_size Gv.bw))
   have n2_ := Gv.a0 (blk_below (g := gb296) (o := .cells #[.int .i64 a1_0, .int .i64 a1_1, .int .i64 a1_2, .int .i64 a1_3, .int .i64 a1_4, .int .i64 a1_5, .int .i64 a1_6, .int .i64 a1_7, .int .i64 a1_8, .int .i64 a1_9, .int .i64 a1_10, .int .i64 a1_11, .int .i64 a1_12, .int .i64 a1_13] 33 (0, 0)) Gv.bk hb)
   have n3_ := Gv.a0 (below_step Gv.bw hb)
   clear HO317
   clear BK296
   clear HB
   have HO317 := n0_
   have HO320 := n1_
   have BK296 := n2_
   have HB := n3_
   clear n0_ n1_ n2_ n3_
   (try clear hb)
   (try clear hb2)
   (try clear hk)
   (try clear hi)
   (try clear ho0)
   refine hK.out _ _ ⟨v298, v301, v304, v307, v310, v313, .slice Ao27 y315.length co27, v319, m32_, (by rw [ha.out]; exact putSel_upk 17 hb_ rfl rfl rfl), Gv.bk, Gv.bw, fun _ h1_ => absurd ((hon 30 (by kernel_rfl)).symm.trans h1_) (by decide), fun _ h1_ => absurd ((hon 30 (by kernel_rfl)).symm.trans h1_) (by decide), fun _ h1_ => absurd ((hon 30 (by kernel_rfl)).symm.trans h1_) (by decide), fun _ h1_ => absurd ((hon 30 (by kernel_rfl)).symm.trans h1_) (by decide), fun _ h1_ => absurd ((hon 30 (by kernel_rfl)).symm.trans h1_) (by decide), fun _ h1_ => absurd ((hon 30 (by kernel_rfl)).symm.trans h1_) (by decide), fun _ => (by (with_reducible repeat (first | apply Kd.N_alloc | apply Kd.N_drewN | apply Kd.N_drew)); exact Kd.N_mono HO317.out (fun _ hk => by first | exact hk.2 | trivial | exact ⟨hk.1.2, hk.2⟩ | exact ⟨trivial, hk.2⟩ | exact hk.1.2 | exact hk | exact ⟨trivial, hk⟩ | exact hk.1 | (simp only [true_and, and_true] at hk ⊢; first | exact hk | exact hk.2 | exact hk.1 | exact ⟨hk.2, hk.1⟩ | omega | (constructor <;> first | exact hk.1 | exact hk.2 | exact hk.1.1 | exact hk.1.2 | exact hk.2.1 | exact hk.2.2)))), fun _ => (by (with_reducible repeat (first | apply Kd.R_alloc | apply Kd.R_drewN | apply Kd.R_drew)); first | exact HO320.out | exact Kd.R_mono HO320.out (fun _ hk => by first | exact hk.2 | trivial | exact ⟨hk.1.2, hk.2⟩ | exact ⟨trivial, hk.2⟩ | exact hk.1.2 | exact hk | exact ⟨trivial, hk⟩ | exact hk.1 | (simp only [true_and, and_true] at hk ⊢; first | exact hk | exact hk.2 | exact hk.1 | exact ⟨hk.2, hk.1⟩ | omega | (constructor <;> first | exact hk.1 | exact hk.2 | exact hk.1.1 | exact hk.1.2 | exact hk.2.1 | exact hk.2.2)))), fun h0_ => absurd ((hoff 32 (by kernel_rfl)).symm.trans h0_) (by decide)⟩
  refine steps_cons ?_ ?_
  ·rintro b a w' ⟨v298, v301, v304, v307, v310, v313, v316, v319, m32_, ha, Q_BK296, Q_HB, Q_HO299, Q_HO302, Q_HO305, Q_HO308, Q_HO311, Q_HO314, Q_HO317, Q_HO320, Q_X32_⟩ hb_ hon hoff
   refine ⟨_, rfl, fun K hK => ?_⟩
   have e40 : a.tmps[40]? = some (v319) := by rw [ha]; exact putSel_on (e := (31, 40, v319)) 17 rfl rfl (hon 31 (by kernel_rfl)) rfl
   replace ha := Gv.a0 ha
   have BK296 := Gv.a0 Q_BK296
   have HB := Gv.a0 Q_HB
   have HO317 := Gv.a0 (Q_HO317 (hon 30 (by kernel_rfl)))
   have HO320 := Gv.a0 (Q_HO320 (hon 31 (by kernel_rfl)))
   refine value_ (w1 := w') (v := v319) (by rfl) rfl ?_ ?_
   ·go_simp
    (try simp only [i64_w])
    try rfl
   refine hK.out _ _ ⟨v298, v301, v304, v307, v310, v313, v316, v319, (v319), (by rw [ha.out]; exact putSel_upk 18 hb_ rfl rfl rfl), Q_BK296, Q_HB, fun _ h1_ => absurd ((hon 30 (by kernel_rfl)).symm.trans h1_) (by decide), fun _ h1_ => absurd ((hon 30 (by kernel_rfl)).symm.trans h1_) (by decide), fun _ h1_ => absurd ((hon 30 (by kernel_rfl)).symm.trans h1_) (by decide), fun _ h1_ => absurd ((hon 30 (by kernel_rfl)).symm.trans h1_) (by decide), fun _ h1_ => absurd ((hon 30 (by kernel_rfl)).symm.trans h1_) (by decide), fun _ h1_ => absurd ((hon 30 (by kernel_rfl)).symm.trans h1_) (by decide), Q_HO317, Q_HO320, fun _ => rfl⟩
  exact steps_nil
 rintro b a w28 hall ⟨v298, v301, v304, v307, v310, v313, v316, v319, m32_, ha, Q_BK296, Q_HB, Q_HO299, Q_HO302, Q_HO305, Q_HO308, Q_HO311, Q_HO314, Q_HO317, Q_HO320, Q_X32_⟩
 clear BK296 HB
 have hb1_ := hall 1 (by kernel_rfl)
 have hb2_ := hall 2 (by kernel_rfl)
 have hb6_ := hall 6 (by kernel_rfl)
 have hb7_ := hall 7 (by kernel_rfl)
 have hb8_ := hall 8 (by kernel_rfl)
 have hb11_ := hall 11 (by kernel_rfl)
 have hb12_ := hall 12 (by kernel_rfl)
 have hb15_ := hall 15 (by kernel_rfl)
 have hb16_ := hall 16 (by kernel_rfl)
 have hb19_ := hall 19 (by kernel_rfl)
 have hb20_ := hall 20 (by kernel_rfl)
 have hb21_ := hall 21 (by kernel_rfl)
 have hb24_ := hall 24 (by kernel_rfl)
 have hb25_ := hall 25 (by kernel_rfl)
 have hb28_ := hall 28 (by kernel_rfl)
 have hb29_ := hall 29 (by kernel_rfl)
 have hb30_ := hall 30 (by kernel_rfl)
 have hb31_ := hall 31 (by kernel_rfl)
 have hb32_ := hall 32 (by kernel_rfl)
 subst ha
 obtain rfl := Q_X32_ hb32_
 simp only [putSel, hb1_, hb2_, hb6_, hb7_, hb8_, hb11_, hb12_, hb15_, hb16_, hb19_, hb20_, hb21_, hb24_, hb25_, hb28_, hb29_, hb30_, hb31_, hb32_, if_true, Act.put, List.setIfInBounds_toArray, List.set_cons_zero, List.set_cons_succ]
 have BK296 := Gv.a0 Q_BK296
 clear Q_BK296
 have HB := Gv.a0 Q_HB
 clear Q_HB
 clear Q_HO299
 clear Q_HO302
 clear Q_HO305
 clear Q_HO308
 clear Q_HO311
 clear Q_HO314
 have HO317 := Gv.a0 (Q_HO317 hb30_)
 clear Q_HO317
 have HO320 := Gv.a0 (Q_HO320 hb31_)
 clear Q_HO320
 clear hall hb1_ hb2_ hb6_ hb7_ hb8_ hb11_ hb12_ hb15_ hb16_ hb19_ hb20_ hb21_ hb24_ hb25_ hb28_ hb29_ hb30_ hb31_ hb32_
 obtain ⟨Ao29, co29, eo29⟩ := Kd.R_slice HO320.out
 subst eo29
 try go_wp2
 go_loopg [6, 44] k (fun kq v6 v44 w' => ∃ (x6_1 : Int) (x44_1 : Int), v6 = .int .i64 x6_1 ∧ v44 = .int .i64 x44_1 ∧ Aside0 (impl_hashOf.l0 kq x6_1 t318 (t318.length : Int) x44_1 = some r) ∧ Aside0 (kq ≤ k) ∧ Aside0 (Kd.R (Kd.int .u8) 5 w' w.heap.size (fun _ => True) (.slice Ao29 t318.length co29) t318) ∧ Aside0 (w'.heap[gb296]? = some (.cells #[.int .i64 a1_0, .int .i64 a1_1, .int .i64 a1_2, .int .i64 a1_3, .int .i64 a1_4, .int .i64 a1_5, .int .i64 a1_6, .int .i64 a1_7, .int .i64 a1_8, .int .i64 a1_9, .int .i64 a1_10, .int .i64 a1_11, .int .i64 a1_12, .int .i64 a1_13] 33 (0, 0))) ∧ Aside0 (Below w.heap.size w w'))
 case atStart => exact ⟨(a0), (0), (by first | rfl | (simp; done) | (simp [Int.tdiv_eq_ediv_of_nonneg]; done) | (simp [*]; done)), (by first | rfl | (simp; done) | (simp [Int.tdiv_eq_ediv_of_nonneg]; done) | (simp [*]; done)), H', ⟨Nat.le_refl _⟩, ⟨by (with_reducible repeat (first | apply Kd.R_alloc | apply Kd.R_drewN | apply Kd.R_drew)); exact HO320.out⟩, ⟨by (with_reducible repeat (first | refine blk_drewN ?_ _ | refine blk_drew ?_ | refine blk_alloc ?_ _)); exact BK296.out⟩, ⟨by repeat (first | (with_reducible first | exact HB.out | apply below_alloc | apply pw_below_drewN | apply below_drew1 | refine below_set ?_ GE296.out) | exact HB.out)⟩⟩
 case round =>
  clear H'
  try clear c1
  try clear c2
  try clear p2
  try clear c3
  try clear c4
  try clear c5
  try clear c6
  try clear c7
  try clear c8
  try clear c9
  try clear c10
  try clear c11
  try clear c12
  try clear c13
  obtain ⟨x6_1, x44_1, rfl, rfl, HA, HK1, HO_42, BK296, HB⟩ := hrel
  cases gk with
  | zero => exact absurd HA.out (by simp [impl_hashOf.l0])
  | succ k1 =>
   have H := HA.out
   clear HA
   simp only [impl_hashOf.l0] at H
   by_cases c30 : x44_1 < (t318.length : Int)
   ·rw [if_pos c30] at H
    have c30b0 : decide (x44_1 < (t318.length : Int)) = true := decide_eq_true c30
    clear c30
    by_cases c31 : 0 ≤ x44_1
    ·rw [if_pos c31] at H
     have c31b0 : decide (0 ≤ x44_1) = true := decide_eq_true c31
     clear c31
     by_cases c32 : x44_1 < (t318.length : Int)
     ·rw [if_pos c32] at H
      have c32b0 : decide (x44_1 < (t318.length : Int)) = true := decide_eq_true c32
      clear c32
      have H' := Gv.a0 H
      clear H
      have p321 : 0 ≤ (x44_1 : Int) := of_decide_eq_true (by first | (with_reducible assumption) | assumption)
      have q321 : x44_1 < (t318.length : Int) := of_decide_eq_true (by first | (with_reducible assumption) | assumption)
      obtain ⟨ad321, e321, hx321_0⟩ := Kd.at_int (Kd.R_reads' HO_42.out).2.2 x44_1 p321 q321
      cases e321
      replace p321 := eq_true p321
      replace q321 := eq_true q321
      go_wp2
      go_roundg k1
      case measure => have := HK1.out; omega
      case rel => exact ⟨(Int.tmod (wrap64 ((Go.bits .xor .i64 x6_1 (wrap64 (rd t318 x44_1))) * 16777619)) 4294967296), (wrap64 (x44_1 + 1)), (by first | rfl | (simp; done) | (simp [Int.tdiv_eq_ediv_of_nonneg]; done) | (simp [*]; done)), (by first | rfl | (simp; done) | (simp [Int.tdiv_eq_ediv_of_nonneg]; done) | (simp [*]; done)), H', ⟨by have := HK1.out; omega⟩, ⟨by (with_reducible repeat (first | apply Kd.R_alloc | apply Kd.R_drewN | apply Kd.R_drew)); exact HO_42.out⟩, ⟨by (with_reducible repeat (first | refine blk_drewN ?_ _ | refine blk_drew ?_ | refine blk_alloc ?_ _)); exact BK296.out⟩, ⟨by repeat (first | (with_reducible first | exact HB.out | apply below_alloc | apply pw_below_drewN | apply below_drew1 | refine below_set ?_ GE296.out) | exact HB.out)⟩⟩
     ·rw [if_neg c32] at H
      exact absurd H (by simp)
    ·rw [if_neg c31] at H
     exact absurd H (by simp)
   ·rw [if_neg c30] at H
    have c30b0 : decide (x44_1 < (t318.length : Int)) = false := decide_eq_false c30
    clear c30
    obtain rfl := Option.some.inj H
    go_wp2
    go_ret
    exact ⟨by first | rfl | (simp [errW_none, errW_some] <;> rfl) | (simp [*, errW_none, errW_some] <;> rfl), by repeat (first | (with_reducible first | exact HB.out | apply below_alloc | apply pw_below_drewN | apply below_drew1 | refine below_set ?_ GE296.out) | exact HB.out)⟩

/-! ### impl_HashOf: function 17 -/
def impl_HashOf.f (k : Nat) (a0 : Int) (a1_0 : Int) (a1_1 : Int) (a1_2 : Int) (a1_3 : Int) (a1_4 : Int) (a1_5 : Int) (a1_6 : Int) (a1_7 : Int) (a1_8 : Int) (a1_9 : Int) (a1_10 : Int) (a1_11 : Int) (a1_12 : Int) (a1_13 : Int) : Option (Int) := (impl_within.f a0 0 4294967295).bind fun t323 => (if t323 = true then ((impl_FlowKeyOk.f k a1_0 a1_1 a1_2 a1_3 a1_4 a1_5 a1_6 a1_7 a1_8 a1_9 a1_10 a1_11 a1_12 a1_13).bind fun t324 => (if t324 = true then ((impl_hashOf.f k a0 a1_0 a1_1 a1_2 a1_3 a1_4 a1_5 a1_6 a1_7 a1_8 a1_9 a1_10 a1_11 a1_12 a1_13).bind fun t325 => (some t325)) else (some (-1)))) else (some (-1)))
theorem impl_HashOf.mono : ∀ a0 a1 a2 a3 a4 a5 a6 a7 a8 a9 a10 a11 a12 a13 a14 k, LeO (impl_HashOf.f k a0 a1 a2 a3 a4 a5 a6 a7 a8 a9 a10 a11 a12 a13 a14) (impl_HashOf.f (k + 1) a0 a1 a2 a3 a4 a5 a6 a7 a8 a9 a10 a11 a12 a13 a14) := by
 intro a0 a1 a2 a3 a4 a5 a6 a7 a8 a9 a10 a11 a12 a13 a14 k
 unfold impl_HashOf.f
 repeat' first
   | (with_reducible exact impl_FlowKeyOk.mono _ _ _ _ _ _ _ _ _ _ _ _ _ _ _)
   | (with_reducible exact impl_hashOf.mono _ _ _ _ _ _ _ _ _ _ _ _ _ _ _ _)
   | (with_reducible exact LeO.refl _)
   | (with_reducible exact LeO.none _)
   | (with_reducible refine LeO.ite ?_ ?_)
   | (with_reducible refine LeO.bind ?_ (fun _ => ?_))
   | exact impl_FlowKeyOk.mono _ _ _ _ _ _ _ _ _ _ _ _ _ _ _
   | exact impl_hashOf.mono _ _ _ _ _ _ _ _ _ _ _ _ _ _ _ _
   | exact LeO.none _
   | refine LeO.ite ?_ ?_
   | refine LeO.bind ?_ (fun _ => ?_)
set_option maxHeartbeats 8000000 in
set_option maxRecDepth 100000 in
theorem impl_HashOf.calls (k : Nat) (a0 : Int) (a1_0 : Int) (a1_1 : Int) (a1_2 : Int) (a1_3 : Int) (a1_4 : Int) (a1_5 : Int) (a1_6 : Int) (a1_7 : Int) (a1_8 : Int) (a1_9 : Int) (a1_10 : Int) (a1_11 : Int) (a1_12 : Int) (a1_13 : Int) (r : Int) (w : World) (h : impl_HashOf.f k a0 a1_0 a1_1 a1_2 a1_3 a1_4 a1_5 a1_6 a1_7 a1_8 a1_9 a1_10 a1_11 a1_12 a1_13 = some r) :
  Calls Try.prog 17 #[.int .i64 a0, .agg #[.int .i64 a1_0, .int .i64 a1_1, .int .i64 a1_2, .int .i64 a1_3, .int .i64 a1_4, .int .i64 a1_5, .int .i64 a1_6, .int .i64 a1_7, .int .i64 a1_8, .int .i64 a1_9, .int .i64 a1_10, .int .i64 a1_11, .int .i64 a1_12, .int .i64 a1_13]] w fun e w' => e = .returned (.int .i64 r) ∧ Below w.heap.size w w' := by
 have hu33 := Try.underlying33
 have HB := Gv.a0 (Below.refl w.heap.size w)
 have H : ((impl_within.f a0 0 4294967295).bind fun t323 => (if t323 = true then ((impl_FlowKeyOk.f k a1_0 a1_1 a1_2 a1_3 a1_4 a1_5 a1_6 a1_7 a1_8 a1_9 a1_10 a1_11 a1_12 a1_13).bind fun t324 => (if t324 = true then ((impl_hashOf.f k a0 a1_0 a1_1 a1_2 a1_3 a1_4 a1_5 a1_6 a1_7 a1_8 a1_9 a1_10 a1_11 a1_12 a1_13).bind fun t325 => (some t325)) else (some (-1)))) else (some (-1)))) = some r := h
 clear h
 replace H := Option.bind_eq_some_iff.mp H
 obtain ⟨t323, A30, H⟩ := H
 replace H : (if t323 = true then ((impl_FlowKeyOk.f k a1_0 a1_1 a1_2 a1_3 a1_4 a1_5 a1_6 a1_7 a1_8 a1_9 a1_10 a1_11 a1_12 a1_13).bind fun t324 => (if t324 = true then ((impl_hashOf.f k a0 a1_0 a1_1 a1_2 a1_3 a1_4 a1_5 a1_6 a1_7 a1_8 a1_9 a1_10 a1_11 a1_12 a1_13).bind fun t325 => (some t325)) else (some (-1)))) else (some (-1))) = some r := H
 have A3 := Gv.a0 A30
 clear A30
 by_cases c4 : t323 = true
 ·subst c4
  have H1 : ((impl_FlowKeyOk.f k a1_0 a1_1 a1_2 a1_3 a1_4 a1_5 a1_6 a1_7 a1_8 a1_9 a1_10 a1_11 a1_12 a1_13).bind fun t324 => (if t324 = true then ((impl_hashOf.f k a0 a1_0 a1_1 a1_2 a1_3 a1_4 a1_5 a1_6 a1_7 a1_8 a1_9 a1_10 a1_11 a1_12 a1_13).bind fun t325 => (some t325)) else (some (-1)))) = some r := by rw [if_pos rfl] at H; exact H
  clear H
  have H := H1
  clear H1
  replace H := Option.bind_eq_some_iff.mp H
  obtain ⟨t324, A50, H⟩ := H
  replace H : (if t324 = true then ((impl_hashOf.f k a0 a1_0 a1_1 a1_2 a1_3 a1_4 a1_5 a1_6 a1_7 a1_8 a1_9 a1_10 a1_11 a1_12 a1_13).bind fun t325 => (some t325)) else (some (-1))) = some r := H
  have A5 := Gv.a0 A50
  clear A50
  by_cases c6 : t324 = true
  ·subst c6
   have H1 : ((impl_hashOf.f k a0 a1_0 a1_1 a1_2 a1_3 a1_4 a1_5 a1_6 a1_7 a1_8 a1_9 a1_10 a1_11 a1_12 a1_13).bind fun t325 => (some t325)) = some r := by rw [if_pos rfl] at H; exact H
   clear H
   have H := H1
   clear H1
   replace H := Option.bind_eq_some_iff.mp H
   obtain ⟨t325, A70, H⟩ := H
   replace H : (some t325) = some r := H
   have A7 := Gv.a0 A70
   clear A70
   obtain rfl := Option.some.inj H
   go_enter Try.func17, Try.ntmps17
   go_wp2_with (first | ((with_reducible refine gate_dst (N := 3) rfl ?_); refine box_event ?hg (N := 3) ?hd (cs := #[.int .i64 a1_0, .int .i64 a1_1, .int .i64 a1_2, .int .i64 a1_3, .int .i64 a1_4, .int .i64 a1_5, .int .i64 a1_6, .int .i64 a1_7, .int .i64 a1_8, .int .i64 a1_9, .int .i64 a1_10, .int .i64 a1_11, .int .i64 a1_12, .int .i64 a1_13]) (t := 33) ?hr ?_; (case hd => rfl); (case hg => rfl); (case hr => first | (go_simp; done) | (go_simp; rfl)); intro gb322 hg w8 hbox hb; have n0_ := Gv.a0 (below_step Gv.bw hb); have n1_ := Gv.a0 (hbox); have n2_ := Gv.a0 ((by rw [hg]; exact (below_size Gv.bw) : w.heap.size ≤ gb322)); have n3_ := Gv.a0 ((by rw [hg]; exact (below_size Gv.bw) : w.heap.size ≤ gb322)); clear HB; have HB := n0_; have BK322 := n1_; have GW322 := n2_; have GE322 := n3_; clear n0_ n1_ n2_ n3_; clear hb hbox hg) | ((with_reducible refine gate_callee (f := 44) rfl ?_); refine goesL_ (some 6) rfl rfl Try.func44 (by kernel_rfl) rfl #[.int .i64 a0, .int .i64 0, .int .i64 4294967295] rfl (by (try simp only [List.map_toArray, List.map_cons, List.map_nil]); first | done | rfl | (simp only [List.length_drop, List.length_take]; rfl)) ?_; (with_reducible refine (impl_within.calls a0 0 4294967295 true _ A3.out).mono ?_); rintro e w' ⟨rfl, ⟨nd, rfl⟩⟩; refine ⟨_, rfl, ?_⟩; have hcz9_0 : w8.cell? ⟨gb322, 0, none⟩ = some (.int .i64 a1_0) := (blk_cell BK322.out 0).trans rfl; have hcz9_1 : w8.cell? ⟨gb322, 1, none⟩ = some (.int .i64 a1_1) := (blk_cell BK322.out 1).trans rfl; have hcz9_2 : w8.cell? ⟨gb322, 2, none⟩ = some (.int .i64 a1_2) := (blk_cell BK322.out 2).trans rfl; have hcz9_3 : w8.cell? ⟨gb322, 3, none⟩ = some (.int .i64 a1_3) := (blk_cell BK322.out 3).trans rfl; have hcz9_4 : w8.cell? ⟨gb322, 4, none⟩ = some (.int .i64 a1_4) := (blk_cell BK322.out 4).trans rfl; have hcz9_5 : w8.cell? ⟨gb322, 5, none⟩ = some (.int .i64 a1_5) := (blk_cell BK322.out 5).trans rfl; have hcz9_6 : w8.cell? ⟨gb322, 6, none⟩ = some (.int .i64 a1_6) := (blk_cell BK322.out 6).trans rfl; have hcz9_7 : w8.cell? ⟨gb322, 7, none⟩ = some (.int .i64 a1_7) := (blk_cell BK322.out 7).trans rfl; have hcz9_8 : w8.cell? ⟨gb322, 8, none⟩ = some (.int .i64 a1_8) := (blk_cell BK322.out 8).trans rfl; have hcz9_9 : w8.cell? ⟨gb322, 9, none⟩ = some (.int .i64 a1_9) := (blk_cell BK322.out 9).trans rfl; have hcz9_10 : w8.cell? ⟨gb322, 10, none⟩ = some (.int .i64 a1_10) := (blk_cell BK322.out 10).trans rfl; have hcz9_11 : w8.cell? ⟨gb322, 11, none⟩ = some (.int .i64 a1_11) := (blk_cell BK322.out 11).trans rfl; have hcz9_12 : w8.cell? ⟨gb322, 12, none⟩ = some (.int .i64 a1_12) := (blk_cell BK322.out 12).trans rfl; have hcz9_13 : w8.cell? ⟨gb322, 13, none⟩ = some (.int .i64 a1_13) := (blk_cell BK322.out 13).trans rfl; have hfz9_0 := blk_frozen BK322.out 0; have hfz9_1 := blk_frozen BK322.out 1; have hfz9_2 := blk_frozen BK322.out 2; have hfz9_3 := blk_frozen BK322.out 3; have hfz9_4 := blk_frozen BK322.out 4; have hfz9_5 := blk_frozen BK322.out 5; have hfz9_6 := blk_frozen BK322.out 6; have hfz9_7 := blk_frozen BK322.out 7; have hfz9_8 := blk_frozen BK322.out 8; have hfz9_9 := blk_frozen BK322.out 9; have hfz9_10 := blk_frozen BK322.out 10; have hfz9_11 := blk_frozen BK322.out 11; have hfz9_12 := blk_frozen BK322.out 12; have hfz9_13 := blk_frozen BK322.out 13) | (go_at_call 15; (with_reducible refine (impl_FlowKeyOk.calls k a1_0 a1_1 a1_2 a1_3 a1_4 a1_5 a1_6 a1_7 a1_8 a1_9 a1_10 a1_11 a1_12 a1_13 true _ A5.out).mono ?_); rintro e w10 ⟨rfl, hb⟩; have n0_ := Gv.a0 (blk_below (g := gb322) (o := .cells #[.int .i64 a1_0, .int .i64 a1_1, .int .i64 a1_2, .int .i64 a1_3, .int .i64 a1_4, .int .i64 a1_5, .int .i64 a1_6, .int .i64 a1_7, .int .i64 a1_8, .int .i64 a1_9, .int .i64 a1_10, .int .i64 a1_11, .int .i64 a1_12, .int .i64 a1_13] 33 (0, 0)) Gv.bk hb); have n1_ := Gv.a0 (below_step Gv.bw hb); clear BK322; clear HB; have BK322 := n0_; have HB := n1_; clear n0_ n1_; (try clear hb); (try clear hb2); (try clear hk); (try clear hi); have hcz11_0 : w10.cell? ⟨gb322, 0, none⟩ = some (.int .i64 a1_0) := (blk_cell BK322.out 0).trans rfl; have hcz11_1 : w10.cell? ⟨gb322, 1, none⟩ = some (.int .i64 a1_1) := (blk_cell BK322.out 1).trans rfl; have hcz11_2 : w10.cell? ⟨gb322, 2, none⟩ = some (.int .i64 a1_2) := (blk_cell BK322.out 2).trans rfl; have hcz11_3 : w10.cell? ⟨gb322, 3, none⟩ = some (.int .i64 a1_3) := (blk_cell BK322.out 3).trans rfl; have hcz11_4 : w10.cell? ⟨gb322, 4, none⟩ = some (.int .i64 a1_4) := (blk_cell BK322.out 4).trans rfl; have hcz11_5 : w10.cell? ⟨gb322, 5, none⟩ = some (.int .i64 a1_5) := (blk_cell BK322.out 5).trans rfl; have hcz11_6 : w10.cell? ⟨gb322, 6, none⟩ = some (.int .i64 a1_6) := (blk_cell BK322.out 6).trans rfl; have hcz11_7 : w10.cell? ⟨gb322, 7, none⟩ = some (.int .i64 a1_7) := (blk_cell BK322.out 7).trans rfl; have hcz11_8 : w10.cell? ⟨gb322, 8, none⟩ = some (.int .i64 a1_8) := (blk_cell BK322.out 8).trans rfl; have hcz11_9 : w10.cell? ⟨gb322, 9, none⟩ = some (.int .i64 a1_9) := (blk_cell BK322.out 9).trans rfl; have hcz11_10 : w10.cell? ⟨gb322, 10, none⟩ = some (.int .i64 a1_10) := (blk_cell BK322.out 10).trans rfl; have hcz11_11 : w10.cell? ⟨gb322, 11, none⟩ = some (.int .i64 a1_11) := (blk_cell BK322.out 11).trans rfl; have hcz11_12 : w10.cell? ⟨gb322, 12, none⟩ = some (.int .i64 a1_12) := (blk_cell BK322.out 12).trans rfl; have hcz11_13 : w10.cell? ⟨gb322, 13, none⟩ = some (.int .i64 a1_13) := (blk_cell BK322.out 13).trans rfl; have hfz11_0 := blk_frozen BK322.out 0; have hfz11_1 := blk_frozen BK322.out 1; have hfz11_2 := blk_frozen BK322.out 2; have hfz11_3 := blk_frozen BK322.out 3; have hfz11_4 := blk_frozen BK322.out 4; have hfz11_5 := blk_frozen BK322.out 5; have hfz11_6 := blk_frozen BK322.out 6; have hfz11_7 := blk_frozen BK322.out 7; have hfz11_8 := blk_frozen BK322.out 8; have hfz11_9 := blk_frozen BK322.out 9; have hfz11_10 := blk_frozen BK322.out 10; have hfz11_11 := blk_frozen BK322.out 11; have hfz11_12 := blk_frozen BK322.out 12; have hfz11_13 := blk_frozen BK322.out 13) | ((with_reducible refine gate_callee (f := 47) rfl ?_); refine goesL_ (some 15) rfl rfl Try.func47 (by kernel_rfl) rfl #[.int .i64 a0, .agg #[.int .i64 a1_0, .int .i64 a1_1, .int .i64 a1_2, .int .i64 a1_3, .int .i64 a1_4, .int .i64 a1_5, .int .i64 a1_6, .int .i64 a1_7, .int .i64 a1_8, .int .i64 a1_9, .int .i64 a1_10, .int .i64 a1_11, .int .i64 a1_12, .int .i64 a1_13]] rfl (by (try simp only [List.map_toArray, List.map_cons, List.map_nil]); first | done | rfl | (simp only [List.length_drop, List.length_take]; rfl)) ?_; (with_reducible refine (impl_hashOf.calls k a0 a1_0 a1_1 a1_2 a1_3 a1_4 a1_5 a1_6 a1_7 a1_8 a1_9 a1_10 a1_11 a1_12 a1_13 t325 _ A7.out).mono ?_); rintro e w12 ⟨rfl, hb⟩; refine ⟨_, rfl, ?_⟩; have n0_ := Gv.a0 (blk_below (g := gb322) (o := .cells #[.int .i64 a1_0, .int .i64 a1_1, .int .i64 a1_2, .int .i64 a1_3, .int .i64 a1_4, .int .i64 a1_5, .int .i64 a1_6, .int .i64 a1_7, .int .i64 a1_8, .int .i64 a1_9, .int .i64 a1_10, .int .i64 a1_11, .int .i64 a1_12, .int .i64 a1_13] 33 (0, 0)) Gv.bk hb); have n1_ := Gv.a0 (below_step Gv.bw hb); clear BK322; clear HB; have BK322 := n0_; have HB := n1_; clear n0_ n1_; (try clear hb); (try clear hb2); (try clear hk); (try clear hi)))
   go_ret
   exact ⟨by first | rfl | (simp [errW_none, errW_some] <;> rfl) | (simp [*, errW_none, errW_some] <;> rfl), by repeat (first | (with_reducible first | exact HB.out | apply below_alloc | apply pw_below_drewN | apply below_drew1 | refine below_set ?_ GE322.out) | exact HB.out)⟩
  ·replace c6 := Bool.eq_false_iff.mpr c6
   subst c6
   have H1 : (some (-1)) = some r := by rw [if_neg (show ¬ (false = true) by decide)] at H; exact H
   clear H
   have H := H1
   clear H1
   obtain rfl := Option.some.inj H
   go_enter Try.func17, Try.ntmps17
   go_wp2_with (first | ((with_reducible refine gate_dst (N := 3) rfl ?_); refine box_event ?hg (N := 3) ?hd (cs := #[.int .i64 a1_0, .int .i64 a1_1, .int .i64 a1_2, .int .i64 a1_3, .int .i64 a1_4, .int .i64 a1_5, .int .i64 a1_6, .int .i64 a1_7, .int .i64 a1_8, .int .i64 a1_9, .int .i64 a1_10, .int .i64 a1_11, .int .i64 a1_12, .int .i64 a1_13]) (t := 33) ?hr ?_; (case hd => rfl); (case hg => rfl); (case hr => first | (go_simp; done) | (go_simp; rfl)); intro gb322 hg w13 hbox hb; have n0_ := Gv.a0 (below_step Gv.bw hb); have n1_ := Gv.a0 (hbox); have n2_ := Gv.a0 ((by rw [hg]; exact (below_size Gv.bw) : w.heap.size ≤ gb322)); have n3_ := Gv.a0 ((by rw [hg]; exact (below_size Gv.bw) : w.heap.size ≤ gb322)); clear HB; have HB := n0_; have BK322 := n1_; have GW322 := n2_; have GE322 := n3_; clear n0_ n1_ n2_ n3_; clear hb hbox hg) | ((with_reducible refine gate_callee (f := 44) rfl ?_); refine goesL_ (some 6) rfl rfl Try.func44 (by kernel_rfl) rfl #[.int .i64 a0, .int .i64 0, .int .i64 4294967295] rfl (by (try simp only [List.map_toArray, List.map_cons, List.map_nil]); first | done | rfl | (simp only [List.length_drop, List.length_take]; rfl)) ?_; (with_reducible refine (impl_within.calls a0 0 4294967295 true _ A3.out).mono ?_); rintro e w' ⟨rfl, ⟨nd, rfl⟩⟩; refine ⟨_, rfl, ?_⟩; have hcz14_0 : w13.cell? ⟨gb322, 0, none⟩ = some (.int .i64 a1_0) := (blk_cell BK322.out 0).trans rfl; have hcz14_1 : w13.cell? ⟨gb322, 1, none⟩ = some (.int .i64 a1_1) := (blk_cell BK322.out 1).trans rfl; have hcz14_2 : w13.cell? ⟨gb322, 2, none⟩ = some (.int .i64 a1_2) := (blk_cell BK322.out 2).trans rfl; have hcz14_3 : w13.cell? ⟨gb322, 3, none⟩ = some (.int .i64 a1_3) := (blk_cell BK322.out 3).trans rfl; have hcz14_4 : w13.cell? ⟨gb322, 4, none⟩ = some (.int .i64 a1_4) := (blk_cell BK322.out 4).trans rfl; have hcz14_5 : w13.cell? ⟨gb322, 5, none⟩ = some (.int .i64 a1_5) := (blk_cell BK322.out 5).trans rfl; have hcz14_6 : w13.cell? ⟨gb322, 6, none⟩ = some (.int .i64 a1_6) := (blk_cell BK322.out 6).trans rfl; have hcz14_7 : w13.cell? ⟨gb322, 7, none⟩ = some (.int .i64 a1_7) := (blk_cell BK322.out 7).trans rfl; have hcz14_8 : w13.cell? ⟨gb322, 8, none⟩ = some (.int .i64 a1_8) := (blk_cell BK322.out 8).trans rfl; have hcz14_9 : w13.cell? ⟨gb322, 9, none⟩ = some (.int .i64 a1_9) := (blk_cell BK322.out 9).trans rfl; have hcz14_10 : w13.cell? ⟨gb322, 10, none⟩ = some (.int .i64 a1_10) := (blk_cell BK322.out 10).trans rfl; have hcz14_11 : w13.cell? ⟨gb322, 11, none⟩ = some (.int .i64 a1_11) := (blk_cell BK322.out 11).trans rfl; have hcz14_12 : w13.cell? ⟨gb322, 12, none⟩ = some (.int .i64 a1_12) := (blk_cell BK322.out 12).trans rfl; have hcz14_13 : w13.cell? ⟨gb322, 13, none⟩ = some (.int .i64 a1_13) := (blk_cell BK322.out 13).trans rfl; have hfz14_0 := blk_frozen BK322.out 0; have hfz14_1 := blk_frozen BK322.out 1; have hfz14_2 := blk_frozen BK322.out 2; have hfz14_3 := blk_frozen BK322.out 3; have hfz14_4 := blk_frozen BK322.out 4; have hfz14_5 := blk_frozen BK322.out 5; have hfz14_6 := blk_frozen BK322.out 6; have hfz14_7 := blk_frozen BK322.out 7; have hfz14_8 := blk_frozen BK322.out 8; have hfz14_9 := blk_frozen BK322.out 9; have hfz14_10 := blk_frozen BK322.out 10; have hfz14_11 := blk_frozen BK322.out 11; have hfz14_12 := blk_frozen BK322.out 12; have hfz14_13 := blk_frozen BK322.out 13) | (go_at_call 15; (with_reducible refine (impl_FlowKeyOk.calls k a1_0 a1_1 a1_2 a1_3 a1_4 a1_5 a1_6 a1_7 a1_8 a1_9 a1_10 a1_11 a1_12 a1_13 false _ A5.out).mono ?_); rintro e w15 ⟨rfl, hb⟩; have n0_ := Gv.a0 (blk_below (g := gb322) (o := .cells #[.int .i64 a1_0, .int .i64 a1_1, .int .i64 a1_2, .int .i64 a1_3, .int .i64 a1_4, .int .i64 a1_5, .int .i64 a1_6, .int .i64 a1_7, .int .i64 a1_8, .int .i64 a1_9, .int .i64 a1_10, .int .i64 a1_11, .int .i64 a1_12, .int .i64 a1_13] 33 (0, 0)) Gv.bk hb); have n1_ := Gv.a0 (below_step Gv.bw hb); clear BK322; clear HB; have BK322 := n0_; have HB := n1_; clear n0_ n1_; (try clear hb); (try clear hb2); (try clear hk); (try clear hi)))
   go_ret
   exact ⟨by first | rfl | (simp [errW_none, errW_some] <;> rfl) | (simp [*, errW_none, errW_some] <;> rfl), by repeat (first | (with_reducible first | exact HB.out | apply below_alloc | apply pw_below_drewN | apply below_drew1 | refine below_set ?_ GE322.out) | exact HB.out)⟩
 ·replace c4 := Bool.eq_false_iff.mpr c4
  subst c4
  have H1 : (some (-1)) = some r := by rw [if_neg (show ¬ (false = true) by decide)] at H; exact H
  clear H
  have H := H1
  clear H1
  obtain rfl := Option.some.inj H
  go_enter Try.func17, Try.ntmps17
  go_wp2_with (first | ((with_reducible refine gate_dst (N := 3) rfl ?_); refine box_event ?hg (N := 3) ?hd (cs := #[.int .i64 a1_0, .int .i64 a1_1, .int .i64 a1_2, .int .i64 a1_3, .int .i64 a1_4, .int .i64 a1_5, .int .i64 a1_6, .int .i64 a1_7, .int .i64 a1_8, .int .i64 a1_9, .int .i64 a1_10, .int .i64 a1_11, .int .i64 a1_12, .int .i64 a1_13]) (t := 33) ?hr ?_; (case hd => rfl); (case hg => rfl); (case hr => first | (go_simp; done) | (go_simp; rfl)); intro gb322 hg w16 hbox hb; have n0_ := Gv.a0 (below_step Gv.bw hb); have n1_ := Gv.a0 (hbox); have n2_ := Gv.a0 ((by rw [hg]; exact (below_size Gv.bw) : w.heap.size ≤ gb322)); have n3_ := Gv.a0 ((by rw [hg]; exact (below_size Gv.bw) : w.heap.size ≤ gb322)); clear HB; have HB := n0_; have BK322 := n1_; have GW322 := n2_; have GE322 := n3_; clear n0_ n1_ n2_ n3_; clear hb hbox hg) | ((with_reducible refine gate_callee (f := 44) rfl ?_); refine goesL_ (some 6) rfl rfl Try.func44 (by kernel_rfl) rfl #[.int .i64 a0, .int .i64 0, .int .i64 4294967295] rfl (by (try simp only [List.map_toArray, List.map_cons, List.map_nil]); first | done | rfl | (simp only [List.length_drop, List.length_take]; rfl)) ?_; (with_reducible refine (impl_within.calls a0 0 4294967295 false _ A3.out).mono ?_); rintro e w' ⟨rfl, ⟨nd, rfl⟩⟩; refine ⟨_, rfl, ?_⟩))
  go_ret
  exact ⟨by first | rfl | (simp [errW_none, errW_some] <;> rfl) | (simp [*, errW_none, errW_some] <;> rfl), by repeat (first | (with_reducible first | exact HB.out | apply below_alloc | apply pw_below_drewN | apply below_drew1 | refine below_set ?_ GE322.out) | exact HB.out)⟩

/-! ### laws_FnExactHashOf: function 4 -/
def laws_FnExactHashOf.f (k : Nat) (a0 : Int) (a1_0 : Int) (a1_1 : Int) (a1_2 : Int) (a1_3 : Int) (a1_4 : Int) (a1_5 : Int) (a1_6 : Int) (a1_7 : Int) (a1_8 : Int) (a1_9 : Int) (a1_10 : Int) (a1_11 : Int) (a1_12 : Int) (a1_13 : Int) : Option (Bool) := (laws_toFlowKey.f a1_0 a1_1 a1_2 a1_3 a1_4 a1_5 a1_6 a1_7 a1_8 a1_9 a1_10 a1_11 a1_12 a1_13).bind fun bt327 => ((spec_HashOf.f k a0 bt327.1 bt327.2.1 bt327.2.2.1 bt327.2.2.2.1 bt327.2.2.2.2.1 bt327.2.2.2.2.2.1 bt327.2.2.2.2.2.2.1 bt327.2.2.2.2.2.2.2.1 bt327.2.2.2.2.2.2.2.2.1 bt327.2.2.2.2.2.2.2.2.2.1 bt327.2.2.2.2.2.2.2.2.2.2.1 bt327.2.2.2.2.2.2.2.2.2.2.2.1 bt327.2.2.2.2.2.2.2.2.2.2.2.2.1 bt327.2.2.2.2.2.2.2.2.2.2.2.2.2).bind fun t341 => ((laws_toFlowKey.f a1_0 a1_1 a1_2 a1_3 a1_4 a1_5 a1_6 a1_7 a1_8 a1_9 a1_10 a1_11 a1_12 a1_13).bind fun bt342 => ((impl_HashOf.f k a0 bt342.1 bt342.2.1 bt342.2.2.1 bt342.2.2.2.1 bt342.2.2.2.2.1 bt342.2.2.2.2.2.1 bt342.2.2.2.2.2.2.1 bt342.2.2.2.2.2.2.2.1 bt342.2.2.2.2.2.2.2.2.1 bt342.2.2.2.2.2.2.2.2.2.1 bt342.2.2.2.2.2.2.2.2.2.2.1 bt342.2.2.2.2.2.2.2.2.2.2.2.1 bt342.2.2.2.2.2.2.2.2.2.2.2.2.1 bt342.2.2.2.2.2.2.2.2.2.2.2.2.2).bind fun t356 => (if t356 = t341 then (some true) else (none)))))
theorem laws_FnExactHashOf.mono : ∀ a0 a1 a2 a3 a4 a5 a6 a7 a8 a9 a10 a11 a12 a13 a14 k, LeO (laws_FnExactHashOf.f k a0 a1 a2 a3 a4 a5 a6 a7 a8 a9 a10 a11 a12 a13 a14) (laws_FnExactHashOf.f (k + 1) a0 a1 a2 a3 a4 a5 a6 a7 a8 a9 a10 a11 a12 a13 a14) := by
 intro a0 a1 a2 a3 a4 a5 a6 a7 a8 a9 a10 a11 a12 a13 a14 k
 unfold laws_FnExactHashOf.f
 repeat' first
   | (with_reducible exact impl_HashOf.mono _ _ _ _ _ _ _ _ _ _ _ _ _ _ _ _)
   | (with_reducible exact spec_HashOf.mono _ _ _ _ _ _ _ _ _ _ _ _ _ _ _ _)
   | (with_reducible exact LeO.refl _)
   | (with_reducible exact LeO.none _)
   | (with_reducible refine LeO.ite ?_ ?_)
   | (with_reducible refine LeO.bind ?_ (fun _ => ?_))
   | exact impl_HashOf.mono _ _ _ _ _ _ _ _ _ _ _ _ _ _ _ _
   | exact spec_HashOf.mono _ _ _ _ _ _ _ _ _ _ _ _ _ _ _ _
   | exact LeO.none _
   | refine LeO.ite ?_ ?_
   | refine LeO.bind ?_ (fun _ => ?_)
set_option maxHeartbeats 8000000 in
set_option maxRecDepth 100000 in
theorem laws_FnExactHashOf.calls (k : Nat) (a0 : Int) (a1_0 : Int) (a1_1 : Int) (a1_2 : Int) (a1_3 : Int) (a1_4 : Int) (a1_5 : Int) (a1_6 : Int) (a1_7 : Int) (a1_8 : Int) (a1_9 : Int) (a1_10 : Int) (a1_11 : Int) (a1_12 : Int) (a1_13 : Int) (r : Bool) (w : World) (h : laws_FnExactHashOf.f k a0 a1_0 a1_1 a1_2 a1_3 a1_4 a1_5 a1_6 a1_7 a1_8 a1_9 a1_10 a1_11 a1_12 a1_13 = some r) :
  Calls Try.prog 4 #[.int .i64 a0, .agg #[.int .i64 a1_0, .int .i64 a1_1, .int .i64 a1_2, .int .i64 a1_3, .int .i64 a1_4, .int .i64 a1_5, .int .i64 a1_6, .int .i64 a1_7, .int .i64 a1_8, .int .i64 a1_9, .int .i64 a1_10, .int .i64 a1_11, .int .i64 a1_12, .int .i64 a1_13]] w fun e w' => e = .returned (.bool r) ∧ Below w.heap.size w w' := by
 have hu27 := Try.underlying27
 have HB := Gv.a0 (Below.refl w.heap.size w)
 have H : ((laws_toFlowKey.f a1_0 a1_1 a1_2 a1_3 a1_4 a1_5 a1_6 a1_7 a1_8 a1_9 a1_10 a1_11 a1_12 a1_13).bind fun bt327 => ((spec_HashOf.f k a0 bt327.1 bt327.2.1 bt327.2.2.1 bt327.2.2.2.1 bt327.2.2.2.2.1 bt327.2.2.2.2.2.1 bt327.2.2.2.2.2.2.1 bt327.2.2.2.2.2.2.2.1 bt327.2.2.2.2.2.2.2.2.1 bt327.2.2.2.2.2.2.2.2.2.1 bt327.2.2.2.2.2.2.2.2.2.2.1 bt327.2.2.2.2.2.2.2.2.2.2.2.1 bt327.2.2.2.2.2.2.2.2.2.2.2.2.1 bt327.2.2.2.2.2.2.2.2.2.2.2.2.2).bind fun t341 => ((laws_toFlowKey.f a1_0 a1_1 a1_2 a1_3 a1_4 a1_5 a1_6 a1_7 a1_8 a1_9 a1_10 a1_11 a1_12 a1_13).bind fun bt342 => ((impl_HashOf.f k a0 bt342.1 bt342.2.1 bt342.2.2.1 bt342.2.2.2.1 bt342.2.2.2.2.1 bt342.2.2.2.2.2.1 bt342.2.2.2.2.2.2.1 bt342.2.2.2.2.2.2.2.1 bt342.2.2.2.2.2.2.2.2.1 bt342.2.2.2.2.2.2.2.2.2.1 bt342.2.2.2.2.2.2.2.2.2.2.1 bt342.2.2.2.2.2.2.2.2.2.2.2.1 bt342.2.2.2.2.2.2.2.2.2.2.2.2.1 bt342.2.2.2.2.2.2.2.2.2.2.2.2.2).bind fun t356 => (if t356 = t341 then (some true) else (none)))))) = some r := h
 clear h
 replace H := Option.bind_eq_some_iff.mp H
 obtain ⟨⟨t327, t328, t329, t330, t331, t332, t333, t334, t335, t336, t337, t338, t339, t340⟩, A30, H⟩ := H
 replace H : ((spec_HashOf.f k a0 t327 t328 t329 t330 t331 t332 t333 t334 t335 t336 t337 t338 t339 t340).bind fun t341 => ((laws_toFlowKey.f a1_0 a1_1 a1_2 a1_3 a1_4 a1_5 a1_6 a1_7 a1_8 a1_9 a1_10 a1_11 a1_12 a1_13).bind fun bt342 => ((impl_HashOf.f k a0 bt342.1 bt342.2.1 bt342.2.2.1 bt342.2.2.2.1 bt342.2.2.2.2.1 bt342.2.2.2.2.2.1 bt342.2.2.2.2.2.2.1 bt342.2.2.2.2.2.2.2.1 bt342.2.2.2.2.2.2.2.2.1 bt342.2.2.2.2.2.2.2.2.2.1 bt342.2.2.2.2.2.2.2.2.2.2.1 bt342.2.2.2.2.2.2.2.2.2.2.2.1 bt342.2.2.2.2.2.2.2.2.2.2.2.2.1 bt342.2.2.2.2.2.2.2.2.2.2.2.2.2).bind fun t356 => (if t356 = t341 then (some true) else (none))))) = some r := H
 have A3 := Gv.a0 A30
 clear A30
 replace H := Option.bind_eq_some_iff.mp H
 obtain ⟨t341, A40, H⟩ := H
 replace H : ((laws_toFlowKey.f a1_0 a1_1 a1_2 a1_3 a1_4 a1_5 a1_6 a1_7 a1_8 a1_9 a1_10 a1_11 a1_12 a1_13).bind fun bt342 => ((impl_HashOf.f k a0 bt342.1 bt342.2.1 bt342.2.2.1 bt342.2.2.2.1 bt342.2.2.2.2.1 bt342.2.2.2.2.2.1 bt342.2.2.2.2.2.2.1 bt342.2.2.2.2.2.2.2.1 bt342.2.2.2.2.2.2.2.2.1 bt342.2.2.2.2.2.2.2.2.2.1 bt342.2.2.2.2.2.2.2.2.2.2.1 bt342.2.2.2.2.2.2.2.2.2.2.2.1 bt342.2.2.2.2.2.2.2.2.2.2.2.2.1 bt342.2.2.2.2.2.2.2.2.2.2.2.2.2).bind fun t356 => (if t356 = t341 then (some true) else (none)))) = some r := H
 have A4 := Gv.a0 A40
 clear A40
 replace H := Option.bind_eq_some_iff.mp H
 obtain ⟨⟨t342, t343, t344, t345, t346, t347, t348, t349, t350, t351, t352, t353, t354, t355⟩, A50, H⟩ := H
 replace H : ((impl_HashOf.f k a0 t342 t343 t344 t345 t346 t347 t348 t349 t350 t351 t352 t353 t354 t355).bind fun t356 => (if t356 = t341 then (some true) else (none))) = some r := H
 have A5 := Gv.a0 A50
 clear A50
 replace H := Option.bind_eq_some_iff.mp H
 obtain ⟨t356, A60, H⟩ := H
 replace H : (if t356 = t341 then (some true) else (none)) = some r := H
 have A6 := Gv.a0 A60
 clear A60
 by_cases c7 : t356 = t341
 ·rw [if_pos c7] at H
  have c7b0 : (t356 == t341) = true := beq_iff_eq.mpr c7
  have c7b1 : (t356 != t341) = false := bne_eq_false_iff_eq.mpr c7
  clear c7
  obtain rfl := Option.some.inj H
  go_enter Try.func4, Try.ntmps4
  go_wp2_with (first | ((with_reducible refine gate_dst (N := 3) rfl ?_); refine box_event ?hg (N := 3) ?hd (cs := #[.int .i64 a1_0, .int .i64 a1_1, .int .i64 a1_2, .int .i64 a1_3, .int .i64 a1_4, .int .i64 a1_5, .int .i64 a1_6, .int .i64 a1_7, .int .i64 a1_8, .int .i64 a1_9, .int .i64 a1_10, .int .i64 a1_11, .int .i64 a1_12, .int .i64 a1_13]) (t := 27) ?hr ?_; (case hd => rfl); (case hg => rfl); (case hr => first | (go_simp; done) | (go_simp; rfl)); intro gb326 hg w8 hbox hb; have n0_ := Gv.a0 (below_step Gv.bw hb); have n1_ := Gv.a0 (hbox); have n2_ := Gv.a0 ((by rw [hg]; exact (below_size Gv.bw) : w.heap.size ≤ gb326)); have n3_ := Gv.a0 ((by rw [hg]; exact (below_size Gv.bw) : w.heap.size ≤ gb326)); clear HB; have HB := n0_; have BK326 := n1_; have GW326 := n2_; have GE326 := n3_; clear n0_ n1_ n2_ n3_; clear hb hbox hg; have hcz9_0 : w8.cell? ⟨gb326, 0, none⟩ = some (.int .i64 a1_0) := (blk_cell BK326.out 0).trans rfl; have hcz9_1 : w8.cell? ⟨gb326, 1, none⟩ = some (.int .i64 a1_1) := (blk_cell BK326.out 1).trans rfl; have hcz9_2 : w8.cell? ⟨gb326, 2, none⟩ = some (.int .i64 a1_2) := (blk_cell BK326.out 2).trans rfl; have hcz9_3 : w8.cell? ⟨gb326, 3, none⟩ = some (.int .i64 a1_3) := (blk_cell BK326.out 3).trans rfl; have hcz9_4 : w8.cell? ⟨gb326, 4, none⟩ = some (.int .i64 a1_4) := (blk_cell BK326.out 4).trans rfl; have hcz9_5 : w8.cell? ⟨gb326, 5, none⟩ = some (.int .i64 a1_5) := (blk_cell BK326.out 5).trans rfl; have hcz9_6 : w8.cell? ⟨gb326, 6, none⟩ = some (.int .i64 a1_6) := (blk_cell BK326.out 6).trans rfl; have hcz9_7 : w8.cell? ⟨gb326, 7, none⟩ = some (.int .i64 a1_7) := (blk_cell BK326.out 7).trans rfl; have hcz9_8 : w8.cell? ⟨gb326, 8, none⟩ = some (.int .i64 a1_8) := (blk_cell BK326.out 8).trans rfl; have hcz9_9 : w8.cell? ⟨gb326, 9, none⟩ = some (.int .i64 a1_9) := (blk_cell BK326.out 9).trans rfl; have hcz9_10 : w8.cell? ⟨gb326, 10, none⟩ = some (.int .i64 a1_10) := (blk_cell BK326.out 10).trans rfl; have hcz9_11 : w8.cell? ⟨gb326, 11, none⟩ = some (.int .i64 a1_11) := (blk_cell BK326.out 11).trans rfl; have hcz9_12 : w8.cell? ⟨gb326, 12, none⟩ = some (.int .i64 a1_12) := (blk_cell BK326.out 12).trans rfl; have hcz9_13 : w8.cell? ⟨gb326, 13, none⟩ = some (.int .i64 a1_13) := (blk_cell BK326.out 13).trans rfl; have hfz9_0 := blk_frozen BK326.out 0; have hfz9_1 := blk_frozen BK326.out 1; have hfz9_2 := blk_frozen BK326.out 2; have hfz9_3 := blk_frozen BK326.out 3; have hfz9_4 := blk_frozen BK326.out 4; have hfz9_5 := blk_frozen BK326.out 5; have hfz9_6 := blk_frozen BK326.out 6; have hfz9_7 := blk_frozen BK326.out 7; have hfz9_8 := blk_frozen BK326.out 8; have hfz9_9 := blk_frozen BK326.out 9; have hfz9_10 := blk_frozen BK326.out 10; have hfz9_11 := blk_frozen BK326.out 11; have hfz9_12 := blk_frozen BK326.out 12; have hfz9_13 := blk_frozen BK326.out 13) | ((with_reducible refine gate_callee (f := 14) rfl ?_); refine goesL_ (some 9) rfl rfl Try.func14 (by kernel_rfl) rfl #[.agg #[.int .i64 a1_0, .int .i64 a1_1, .int .i64 a1_2, .int .i64 a1_3, .int .i64 a1_4, .int .i64 a1_5, .int .i64 a1_6, .int .i64 a1_7, .int .i64 a1_8, .int .i64 a1_9, .int .i64 a1_10, .int .i64 a1_11, .int .i64 a1_12, .int .i64 a1_13]] rfl (by (try simp only [List.map_toArray, List.map_cons, List.map_nil]); first | done | rfl | (simp only [List.length_drop, List.length_take]; rfl)) ?_; (with_reducible refine (laws_toFlowKey.calls a1_0 a1_1 a1_2 a1_3 a1_4 a1_5 a1_6 a1_7 a1_8 a1_9 a1_10 a1_11 a1_12 a1_13 t327 t328 t329 t330 t331 t332 t333 t334 t335 t336 t337 t338 t339 t340 _ A3.out).mono ?_); rintro e w10 ⟨rfl, hb⟩; refine ⟨_, rfl, ?_⟩; have n0_ := Gv.a0 (blk_below (g := gb326) (o := .cells #[.int .i64 a1_0, .int .i64 a1_1, .int .i64 a1_2, .int .i64 a1_3, .int .i64 a1_4, .int .i64 a1_5, .int .i64 a1_6, .int .i64 a1_7, .int .i64 a1_8, .int .i64 a1_9, .int .i64 a1_10, .int .i64 a1_11, .int .i64 a1_12, .int .i64 a1_13] 27 (0, 0)) Gv.bk hb); have n1_ := Gv.a0 (below_step Gv.bw hb); clear BK326; clear HB; have BK326 := n0_; have HB := n1_; clear n0_ n1_; (try clear hb); (try clear hb2); (try clear hk); (try clear hi)) | ((with_reducible refine gate_callee (f := 16) rfl ?_); refine goesL_ (some 10) rfl rfl Try.func16 (by kernel_rfl) rfl #[.int .i64 a0, .agg #[.int .i64 t327, .int .i64 t328, .int .i64 t329, .int .i64 t330, .int .i64 t331, .int .i64 t332, .int .i64 t333, .int .i64 t334, .int .i64 t335, .int .i64 t336, .int .i64 t337, .int .i64 t338, .int .i64 t339, .int .i64 t340]] rfl (by (try simp only [List.map_toArray, List.map_cons, List.map_nil]); first | done | rfl | (simp only [List.length_drop, List.length_take]; rfl)) ?_; (with_reducible refine (spec_HashOf.calls k a0 t327 t328 t329 t330 t331 t332 t333 t334 t335 t336 t337 t338 t339 t340 t341 _ A4.out).mono ?_); rintro e w11 ⟨rfl, hb⟩; refine ⟨_, rfl, ?_⟩; have n0_ := Gv.a0 (blk_below (g := gb326) (o := .cells #[.int .i64 a1_0, .int .i64 a1_1, .int .i64 a1_2, .int .i64 a1_3, .int .i64 a1_4, .int .i64 a1_5, .int .i64 a1_6, .int .i64 a1_7, .int .i64 a1_8, .int .i64 a1_9, .int .i64 a1_10, .int .i64 a1_11, .int .i64 a1_12, .int .i64 a1_13] 27 (0, 0)) Gv.bk hb); have n1_ := Gv.a0 (below_step Gv.bw hb); clear BK326; clear HB; have BK326 := n0_; have HB := n1_; clear n0_ n1_; (try clear hb); (try clear hb2); (try clear hk); (try clear hi); have hcz12_0 : w11.cell? ⟨gb326, 0, none⟩ = some (.int .i64 a1_0) := (blk_cell BK326.out 0).trans rfl; have hcz12_1 : w11.cell? ⟨gb326, 1, none⟩ = some (.int .i64 a1_1) := (blk_cell BK326.out 1).trans rfl; have hcz12_2 : w11.cell? ⟨gb326, 2, none⟩ = some (.int .i64 a1_2) := (blk_cell BK326.out 2).trans rfl; have hcz12_3 : w11.cell? ⟨gb326, 3, none⟩ = some (.int .i64 a1_3) := (blk_cell BK326.out 3).trans rfl; have hcz12_4 : w11.cell? ⟨gb326, 4, none⟩ = some (.int .i64 a1_4) := (blk_cell BK326.out 4).trans rfl; have hcz12_5 : w11.cell? ⟨gb326, 5, none⟩ = some (.int .i64 a1_5) := (blk_cell BK326.out 5).trans rfl; have hcz12_6 : w11.cell? ⟨gb326, 6, none⟩ = some (.int .i64 a1_6) := (blk_cell BK326.out 6).trans rfl; have hcz12_7 : w11.cell? ⟨gb326, 7, none⟩ = some (.int .i64 a1_7) := (blk_cell BK326.out 7).trans rfl; have hcz12_8 : w11.cell? ⟨gb326, 8, none⟩ = some (.int .i64 a1_8) := (blk_cell BK326.out 8).trans rfl; have hcz12_9 : w11.cell? ⟨gb326, 9, none⟩ = some (.int .i64 a1_9) := (blk_cell BK326.out 9).trans rfl; have hcz12_10 : w11.cell? ⟨gb326, 10, none⟩ = some (.int .i64 a1_10) := (blk_cell BK326.out 10).trans rfl; have hcz12_11 : w11.cell? ⟨gb326, 11, none⟩ = some (.int .i64 a1_11) := (blk_cell BK326.out 11).trans rfl; have hcz12_12 : w11.cell? ⟨gb326, 12, none⟩ = some (.int .i64 a1_12) := (blk_cell BK326.out 12).trans rfl; have hcz12_13 : w11.cell? ⟨gb326, 13, none⟩ = some (.int .i64 a1_13) := (blk_cell BK326.out 13).trans rfl; have hfz12_0 := blk_frozen BK326.out 0; have hfz12_1 := blk_frozen BK326.out 1; have hfz12_2 := blk_frozen BK326.out 2; have hfz12_3 := blk_frozen BK326.out 3; have hfz12_4 := blk_frozen BK326.out 4; have hfz12_5 := blk_frozen BK326.out 5; have hfz12_6 := blk_frozen BK326.out 6; have hfz12_7 := blk_frozen BK326.out 7; have hfz12_8 := blk_frozen BK326.out 8; have hfz12_9 := blk_frozen BK326.out 9; have hfz12_10 := blk_frozen BK326.out 10; have hfz12_11 := blk_frozen BK326.out 11; have hfz12_12 := blk_frozen BK326.out 12; have hfz12_13 := blk_frozen BK326.out 13) | ((with_reducible refine gate_callee (f := 14) rfl ?_); refine goesL_ (some 13) rfl rfl Try.func14 (by kernel_rfl) rfl #[.agg #[.int .i64 a1_0, .int .i64 a1_1, .int .i64 a1_2, .int .i64 a1_3, .int .i64 a1_4, .int .i64 a1_5, .int .i64 a1_6, .int .i64 a1_7, .int .i64 a1_8, .int .i64 a1_9, .int .i64 a1_10, .int .i64 a1_11, .int .i64 a1_12, .int .i64 a1_13]] rfl (by (try simp only [List.map_toArray, List.map_cons, List.map_nil]); first | done | rfl | (simp only [List.length_drop, List.length_take]; rfl)) ?_; (with_reducible refine (laws_toFlowKey.calls a1_0 a1_1 a1_2 a1_3 a1_4 a1_5 a1_6 a1_7 a1_8 a1_9 a1_10 a1_11 a1_12 a1_13 t342 t343 t344 t345 t346 t347 t348 t349 t350 t351 t352 t353 t354 t355 _ A5.out).mono ?_); rintro e w13 ⟨rfl, hb⟩; refine ⟨_, rfl, ?_⟩; have n0_ := Gv.a0 (blk_below (g := gb326) (o := .cells #[.int .i64 a1_0, .int .i64 a1_1, .int .i64 a1_2, .int .i64 a1_3, .int .i64 a1_4, .int .i64 a1_5, .int .i64 a1_6, .int .i64 a1_7, .int .i64 a1_8, .int .i64 a1_9, .int .i64 a1_10, .int .i64 a1_11, .int .i64 a1_12, .int .i64 a1_13] 27 (0, 0)) Gv.bk hb); have n1_ := Gv.a0 (below_step Gv.bw hb); clear BK326; clear HB; have BK326 := n0_; have HB := n1_; clear n0_ n1_; (try clear hb); (try clear hb2); (try clear hk); (try clear hi)) | ((with_reducible refine gate_callee (f := 17) rfl ?_); refine goesL_ (some 14) rfl rfl Try.func17 (by kernel_rfl) rfl #[.int .i64 a0, .agg #[.int .i64 t342, .int .i64 t343, .int .i64 t344, .int .i64 t345, .int .i64 t346, .int .i64 t347, .int .i64 t348, .int .i64 t349, .int .i64 t350, .int .i64 t351, .int .i64 t352, .int .i64 t353, .int .i64 t354, .int .i64 t355]] rfl (by (try simp only [List.map_toArray, List.map_cons, List.map_nil]); first | done | rfl | (simp only [List.length_drop, List.length_take]; rfl)) ?_; (with_reducible refine (impl_HashOf.calls k a0 t342 t343 t344 t345 t346 t347 t348 t349 t350 t351 t352 t353 t354 t355 t356 _ A6.out).mono ?_); rintro e w14 ⟨rfl, hb⟩; refine ⟨_, rfl, ?_⟩; have n0_ := Gv.a0 (blk_below (g := gb326) (o := .cells #[.int .i64 a1_0, .int .i64 a1_1, .int .i64 a1_2, .int .i64 a1_3, .int .i64 a1_4, .int .i64 a1_5, .int .i64 a1_6, .int .i64 a1_7, .int .i64 a1_8, .int .i64 a1_9, .int .i64 a1_10, .int .i64 a1_11, .int .i64 a1_12, .int .i64 a1_13] 27 (0, 0)) Gv.bk hb); have n1_ := Gv.a0 (below_step Gv.bw hb); clear BK326; clear HB; have BK326 := n0_; have HB := n1_; clear n0_ n1_; (try clear hb); (try clear hb2); (try clear hk); (try clear hi)))
  go_ret
  exact ⟨by first | rfl | (simp [errW_none, errW_some] <;> rfl) | (simp [*, errW_none, errW_some] <;> rfl), by repeat (first | (with_reducible first | exact HB.out | apply below_alloc | apply pw_below_drewN | apply below_drew1 | refine below_set ?_ GE326.out) | exact HB.out)⟩
 ·rw [if_neg c7] at H
  exact absurd H (by simp)

end Go.Proofs.Ytfnpodebjejhpaa.PHa
