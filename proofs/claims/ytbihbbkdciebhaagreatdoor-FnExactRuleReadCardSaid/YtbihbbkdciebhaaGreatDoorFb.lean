/- internal/strconv.formatBits at base 16, for numbers below 65536: its walk, round by round; strconv.FormatInt at base 16. -/
import Derived.Test.YtbihbbkdciebhaaGreatDoorProg
import Derived.Shelf.Strconv.Itoa3
import Derived.Lib.LaidTab
import Derived.Lib.LaidU8
import Derived.KernelRfl
import Derived.WalkKit
import Derived.Laws.BitsLemmas
namespace Go.Proofs.YtbihbbkdciebhaaGreatDoor.Fb
open Go Go.RowKit Go.Proofs
set_option linter.unusedVariables false
set_option linter.unusedSimpArgs false
set_option maxRecDepth 100000
/-- What the table of trailing zeros holds where it is looked at. -/
def At4 (w : World) : Prop := w.cell? ⟨7, 15, none⟩ = some (.int .u8 4)
theorem At4.lt {w : World} (h : At4 w) : 7 < w.heap.size := World.block_lt_of_cell? _ _ h
theorem At4.below {w w' : World} (h : At4 w) (hb : Below w.heap.size w w') : At4 w' := (hb.cell (World.block_lt_of_cell? _ _ h)).trans h
theorem At4.alloc {w : World} (h : At4 w) (o : Obj) : At4 (w.alloc o) := (World.cell?_alloc_past o 7 15 h.lt).trans h
theorem tz64 (w : World) (hc0 : At4 w) : Calls Tryz.prog 119 #[.int .u64 16] w fun e w' => e = .returned (.int .i64 4) ∧ w' = w := by
  have hc : w.cell? ⟨7, 15, none⟩ = some (.int .u8 4) := hc0
  clear hc0
  have hc1 : w.cell? ⟨7, (IntKind.u64.wrap (bits BinOp.and IntKind.u64 16 (IntKind.u64.wrap (-16)) * 285870213051353865) / 288230376151711744).toNat, none⟩ = some (.int .u8 4) := by
    rw [show (IntKind.u64.wrap (bits BinOp.and IntKind.u64 16 (IntKind.u64.wrap (-16)) * 285870213051353865) / 288230376151711744).toNat = 15 by kernel_rfl]
    exact hc
  clear hc
  have hr : (0 : Int) ≤ (IntKind.u64.wrap (bits BinOp.and IntKind.u64 16 (IntKind.u64.wrap (-16)) * 285870213051353865) / 288230376151711744) ∧ (IntKind.u64.wrap (bits BinOp.and IntKind.u64 16 (IntKind.u64.wrap (-16)) * 285870213051353865) / 288230376151711744) < 64 := by
    rw [show (IntKind.u64.wrap (bits BinOp.and IntKind.u64 16 (IntKind.u64.wrap (-16)) * 285870213051353865) / 288230376151711744) = 15 by kernel_rfl]
    decide
  go_enter Tryz.func119, Tryz.ntmps119
  go_wp2
  go_ret
  exact ⟨rfl, rfl⟩
theorem tz (w : World) (hc : At4 w) : Calls Tryz.prog 117 #[.int .u64 16] w fun e w' => e = .returned (.int .i64 4) ∧ w' = w := by
  have e71 : ∀ args w, (callFunc 119 args).run Tryz.prog w = .ok (.enter 119 args) w := enters_of Tryz.func119 (by kernel_rfl) rfl
  go_enter Tryz.func117, Tryz.ntmps117
  go_wp2_with (go_at_fn 119; refine (tz64 _ hc).mono ?_; rintro e w' ⟨rfl, rfl⟩)
  go_ret
  exact ⟨rfl, rfl⟩
theorem pow2 (w : World) : Calls Tryz.prog 116 #[.int .i64 16] w fun e w' => e = .returned (.bool true) ∧ w' = w := by
  go_enter Tryz.func116, Tryz.ntmps116
  go_wp2
  go_ret
  exact ⟨rfl, rfl⟩
theorem cv (w : World) (C : Array Value) (n o : Nat) (l : List UInt8) (hl : l.length = n) (hc : ∀ j (hj : j < l.length), C[o + j]? = some (.int .u8 (l[j].toNat : Int))) : (convert 62 9 (.slice (some ⟨w.heap.size, o, none⟩) n n)).run Tryz.prog (w.alloc (.cells C 134)) = .ok (.string ⟨l.toArray⟩) (w.alloc (.cells C 134)) := by
  subst hl
  exact run_convert_bytes_back (P := Tryz.prog) _ 62 9 5 ⟨w.heap.size, o, none⟩ _ l Tryz.underlying62 Tryz.underlying5 Tryz.underlying9 (fun j hj => by
    rw [Lib.add_plain, World.cell?_alloc_new]
    exact hc j hj)
theorem z134 : Tryz.zeroCells134 = Array.replicate 65 (.int .u8 0) := by kernel_rfl
theorem mask (u : Nat) (hu : u < 65536) : bits BinOp.and IntKind.u64 (u : Int) 15 = ((u % 16 : Nat) : Int) := by
  rw [show (15 : Int) = ((15 : Nat) : Int) from rfl, bits_and_u64_nat u 15 (by omega) (by omega), show 15 = 2 ^ 4 - 1 from rfl, Nat.and_two_pow_sub_one_eq_mod]
/-- A digit of base 16. -/
def hd (n : Nat) : UInt8 := UInt8.ofNat (if n < 10 then 48 + n else 87 + n)
theorem digs : ∀ i, i < 16 → ∀ h : i < (⟨#[48, 49, 50, 51, 52, 53, 54, 55, 56, 57, 97, 98, 99, 100, 101, 102, 103, 104, 105, 106, 107, 108, 109, 110, 111, 112, 113, 114, 115, 116, 117, 118, 119, 120, 121, 122]⟩ : ByteArray).size, (⟨#[48, 49, 50, 51, 52, 53, 54, 55, 56, 57, 97, 98, 99, 100, 101, 102, 103, 104, 105, 106, 107, 108, 109, 110, 111, 112, 113, 114, 115, 116, 117, 118, 119, 120, 121, 122]⟩ : ByteArray)[i] = hd i
  | 0, _, _ => rfl
  | 1, _, _ => rfl
  | 2, _, _ => rfl
  | 3, _, _ => rfl
  | 4, _, _ => rfl
  | 5, _, _ => rfl
  | 6, _, _ => rfl
  | 7, _, _ => rfl
  | 8, _, _ => rfl
  | 9, _, _ => rfl
  | 10, _, _ => rfl
  | 11, _, _ => rfl
  | 12, _, _ => rfl
  | 13, _, _ => rfl
  | 14, _, _ => rfl
  | 15, _, _ => rfl
  | i + 16, h, _ => by omega
/-- A number below 65536 in base 16. -/
def hexL (u : Nat) : List UInt8 := if u < 16 then [hd u] else if u < 256 then [hd (u / 16), hd (u % 16)] else if u < 4096 then [hd (u / 16 / 16), hd (u / 16 % 16), hd (u % 16)] else [hd (u / 16 / 16 / 16), hd (u / 16 / 16 % 16), hd (u / 16 % 16), hd (u % 16)]
set_option maxHeartbeats 4000000 in
theorem fb0 (u : Nat) (hu0 : 0 ≤ u) (hu : u < 16) (w : World) (hc : At4 w) : Calls Tryz.prog 111 #[.slice none 0 0, .int .u64 u, .int .i64 16, .bool false, .bool false] w fun e w' => e = .returned (.tuple #[.slice none 0 0, .string ⟨(hexL u).toArray⟩]) ∧ Below w.heap.size w w' := by
  have e68 : ∀ args w, (callFunc 116 args).run Tryz.prog w = .ok (.enter 116 args) w := enters_of Tryz.func116 (by kernel_rfl) rfl
  have e69 : ∀ args w, (callFunc 117 args).run Tryz.prog w = .ok (.enter 117 args) w := enters_of Tryz.func117 (by kernel_rfl) rfl
  have hca := hc.alloc
  clear hc
  have hX : hexL u = [hd (u)] := by unfold hexL; rw [if_pos (by omega)]
  have hxl : (u : Int) < 36 := by omega
  have hyl : u < 36 := by omega
  have hzl : u < 16 := by omega
  have cg : decide ((u : Int) ≥ 16) = false := decide_eq_false (by omega)
  have cl : decide ((16 : Int) ≤ (u : Int)) = false := decide_eq_false (by omega)
  have hcv : ∀ (b0 : UInt8), (convert 62 9 (.slice (some ⟨w.heap.size, 64, none⟩) 1 1)).run Tryz.prog (w.alloc (.cells (Tryz.zeroCells134.setIfInBounds 64 (.int .u8 (b0.toNat : Int))) 134)) = .ok (.string ⟨#[b0]⟩) (w.alloc (.cells (Tryz.zeroCells134.setIfInBounds 64 (.int .u8 (b0.toNat : Int))) 134)) := fun b0 => cv w _ 1 64 [b0] rfl (fun j hj => by
    rw [z134]
    simp only [List.length_cons, List.length_nil] at hj
    obtain rfl : j = 0 := by omega
    simp)
  go_enter Tryz.func111, Tryz.ntmps111
  generalize hD : (⟨#[48, 49, 50, 51, 52, 53, 54, 55, 56, 57, 97, 98, 99, 100, 101, 102, 103, 104, 105, 106, 107, 108, 109, 110, 111, 112, 113, 114, 115, 116, 117, 118, 119, 120, 121, 122]⟩ : ByteArray) = D
  have hDs : D.size = 36 := by rw [← hD]; rfl
  have hDd : ∀ i (h : i < D.size), i < 16 → D[i] = hd i := by subst hD; exact fun i h h' => digs i h' h
  clear hD
  go_wp2_with (first | (go_at_fn 116; refine (pow2 _).mono ?_; rintro e w' ⟨rfl, rfl⟩) | (go_at_fn 117; refine (tz _ (hca _)).mono ?_; rintro e w' ⟨rfl, rfl⟩))
  refine wp_loop_rounds 1 ?_
  rw [rounds_succ]
  go_wp2
  go_ret2
  refine ⟨?_, (Below.refl _ _).alloc (Nat.le_refl _) _⟩
  rw [hX]
  rfl
set_option maxHeartbeats 4000000 in
theorem fb1 (u : Nat) (hu0 : 16 ≤ u) (hu : u < 256) (w : World) (hc : At4 w) : Calls Tryz.prog 111 #[.slice none 0 0, .int .u64 u, .int .i64 16, .bool false, .bool false] w fun e w' => e = .returned (.tuple #[.slice none 0 0, .string ⟨(hexL u).toArray⟩]) ∧ Below w.heap.size w w' := by
  have e68 : ∀ args w, (callFunc 116 args).run Tryz.prog w = .ok (.enter 116 args) w := enters_of Tryz.func116 (by kernel_rfl) rfl
  have e69 : ∀ args w, (callFunc 117 args).run Tryz.prog w = .ok (.enter 117 args) w := enters_of Tryz.func117 (by kernel_rfl) rfl
  have hca := hc.alloc
  clear hc
  have hX : hexL u = [hd (u / 16), hd (u % 16)] := by unfold hexL; rw [if_neg (by omega)]; rw [if_pos (by omega)]
  have hm0 := mask u (by omega)
  obtain ⟨a0, ha0⟩ : ∃ a, a = u % 16 := ⟨_, rfl⟩
  obtain ⟨q1, hq1⟩ : ∃ q, q = u / 16 := ⟨_, rfl⟩
  have hd0 : (u : Int) / 16 = (q1 : Int) := by omega
  rw [← ha0] at hm0
  have hx0 : (a0 : Int) < 36 := by omega
  have hy0 : a0 < 36 := by omega
  have hz0 : a0 < 16 := by omega
  have cg0 : decide ((u : Int) ≥ 16) = true := decide_eq_true (by omega)
  have cl0 : decide ((16 : Int) ≤ (u : Int)) = true := decide_eq_true (by omega)
  rw [← hq1, ← ha0] at hX
  have hxl : (q1 : Int) < 36 := by omega
  have hyl : q1 < 36 := by omega
  have hzl : q1 < 16 := by omega
  have cg : decide ((q1 : Int) ≥ 16) = false := decide_eq_false (by omega)
  have cl : decide ((16 : Int) ≤ (q1 : Int)) = false := decide_eq_false (by omega)
  have hcv : ∀ (b0 b1 : UInt8), (convert 62 9 (.slice (some ⟨w.heap.size, 63, none⟩) 2 2)).run Tryz.prog (w.alloc (.cells ((Tryz.zeroCells134.setIfInBounds 64 (.int .u8 (b0.toNat : Int))).setIfInBounds 63 (.int .u8 (b1.toNat : Int))) 134)) = .ok (.string ⟨#[b1, b0]⟩) (w.alloc (.cells ((Tryz.zeroCells134.setIfInBounds 64 (.int .u8 (b0.toNat : Int))).setIfInBounds 63 (.int .u8 (b1.toNat : Int))) 134)) := fun b0 b1 => cv w _ 2 63 [b1, b0] rfl (fun j hj => by
    rw [z134]
    simp only [List.length_cons, List.length_nil] at hj
    rcases (show j = 0 ∨ j = 1 by omega) with rfl | rfl <;> simp [Array.getElem?_setIfInBounds])
  clear ha0 hq1 hu0 hu
  go_enter Tryz.func111, Tryz.ntmps111
  generalize hD : (⟨#[48, 49, 50, 51, 52, 53, 54, 55, 56, 57, 97, 98, 99, 100, 101, 102, 103, 104, 105, 106, 107, 108, 109, 110, 111, 112, 113, 114, 115, 116, 117, 118, 119, 120, 121, 122]⟩ : ByteArray) = D
  have hDs : D.size = 36 := by rw [← hD]; rfl
  have hDd : ∀ i (h : i < D.size), i < 16 → D[i] = hd i := by subst hD; exact fun i h h' => digs i h' h
  clear hD
  go_wp2_with (first | (go_at_fn 116; refine (pow2 _).mono ?_; rintro e w' ⟨rfl, rfl⟩) | (go_at_fn 117; refine (tz _ (hca _)).mono ?_; rintro e w' ⟨rfl, rfl⟩))
  refine wp_loop_rounds 2 ?_
  rw [rounds_succ]
  go_wp2
  rw [rounds_succ]
  go_wp2
  go_ret2
  refine ⟨?_, (Below.refl _ _).alloc (Nat.le_refl _) _⟩
  rw [hX]
  rfl
set_option maxHeartbeats 4000000 in
theorem fb2 (u : Nat) (hu0 : 256 ≤ u) (hu : u < 4096) (w : World) (hc : At4 w) : Calls Tryz.prog 111 #[.slice none 0 0, .int .u64 u, .int .i64 16, .bool false, .bool false] w fun e w' => e = .returned (.tuple #[.slice none 0 0, .string ⟨(hexL u).toArray⟩]) ∧ Below w.heap.size w w' := by
  have e68 : ∀ args w, (callFunc 116 args).run Tryz.prog w = .ok (.enter 116 args) w := enters_of Tryz.func116 (by kernel_rfl) rfl
  have e69 : ∀ args w, (callFunc 117 args).run Tryz.prog w = .ok (.enter 117 args) w := enters_of Tryz.func117 (by kernel_rfl) rfl
  have hca := hc.alloc
  clear hc
  have hX : hexL u = [hd (u / 16 / 16), hd (u / 16 % 16), hd (u % 16)] := by unfold hexL; rw [if_neg (by omega)]; rw [if_neg (by omega)]; rw [if_pos (by omega)]
  have hm0 := mask u (by omega)
  obtain ⟨a0, ha0⟩ : ∃ a, a = u % 16 := ⟨_, rfl⟩
  obtain ⟨q1, hq1⟩ : ∃ q, q = u / 16 := ⟨_, rfl⟩
  have hd0 : (u : Int) / 16 = (q1 : Int) := by omega
  rw [← ha0] at hm0
  have hx0 : (a0 : Int) < 36 := by omega
  have hy0 : a0 < 36 := by omega
  have hz0 : a0 < 16 := by omega
  have cg0 : decide ((u : Int) ≥ 16) = true := decide_eq_true (by omega)
  have cl0 : decide ((16 : Int) ≤ (u : Int)) = true := decide_eq_true (by omega)
  rw [← hq1, ← ha0] at hX
  have hm1 := mask q1 (by omega)
  obtain ⟨a1, ha1⟩ : ∃ a, a = q1 % 16 := ⟨_, rfl⟩
  obtain ⟨q2, hq2⟩ : ∃ q, q = q1 / 16 := ⟨_, rfl⟩
  have hd1 : (q1 : Int) / 16 = (q2 : Int) := by omega
  rw [← ha1] at hm1
  have hx1 : (a1 : Int) < 36 := by omega
  have hy1 : a1 < 36 := by omega
  have hz1 : a1 < 16 := by omega
  have cg1 : decide ((q1 : Int) ≥ 16) = true := decide_eq_true (by omega)
  have cl1 : decide ((16 : Int) ≤ (q1 : Int)) = true := decide_eq_true (by omega)
  rw [← hq2, ← ha1] at hX
  have hxl : (q2 : Int) < 36 := by omega
  have hyl : q2 < 36 := by omega
  have hzl : q2 < 16 := by omega
  have cg : decide ((q2 : Int) ≥ 16) = false := decide_eq_false (by omega)
  have cl : decide ((16 : Int) ≤ (q2 : Int)) = false := decide_eq_false (by omega)
  have hcv : ∀ (b0 b1 b2 : UInt8), (convert 62 9 (.slice (some ⟨w.heap.size, 62, none⟩) 3 3)).run Tryz.prog (w.alloc (.cells (((Tryz.zeroCells134.setIfInBounds 64 (.int .u8 (b0.toNat : Int))).setIfInBounds 63 (.int .u8 (b1.toNat : Int))).setIfInBounds 62 (.int .u8 (b2.toNat : Int))) 134)) = .ok (.string ⟨#[b2, b1, b0]⟩) (w.alloc (.cells (((Tryz.zeroCells134.setIfInBounds 64 (.int .u8 (b0.toNat : Int))).setIfInBounds 63 (.int .u8 (b1.toNat : Int))).setIfInBounds 62 (.int .u8 (b2.toNat : Int))) 134)) := fun b0 b1 b2 => cv w _ 3 62 [b2, b1, b0] rfl (fun j hj => by
    rw [z134]
    simp only [List.length_cons, List.length_nil] at hj
    rcases (show j = 0 ∨ j = 1 ∨ j = 2 by omega) with rfl | rfl | rfl <;> simp [Array.getElem?_setIfInBounds])
  clear ha0 hq1 ha1 hq2 hu0 hu
  go_enter Tryz.func111, Tryz.ntmps111
  generalize hD : (⟨#[48, 49, 50, 51, 52, 53, 54, 55, 56, 57, 97, 98, 99, 100, 101, 102, 103, 104, 105, 106, 107, 108, 109, 110, 111, 112, 113, 114, 115, 116, 117, 118, 119, 120, 121, 122]⟩ : ByteArray) = D
  have hDs : D.size = 36 := by rw [← hD]; rfl
  have hDd : ∀ i (h : i < D.size), i < 16 → D[i] = hd i := by subst hD; exact fun i h h' => digs i h' h
  clear hD
  go_wp2_with (first | (go_at_fn 116; refine (pow2 _).mono ?_; rintro e w' ⟨rfl, rfl⟩) | (go_at_fn 117; refine (tz _ (hca _)).mono ?_; rintro e w' ⟨rfl, rfl⟩))
  refine wp_loop_rounds 3 ?_
  rw [rounds_succ]
  go_wp2
  rw [rounds_succ]
  go_wp2
  rw [rounds_succ]
  go_wp2
  go_ret2
  refine ⟨?_, (Below.refl _ _).alloc (Nat.le_refl _) _⟩
  rw [hX]
  rfl
set_option maxHeartbeats 4000000 in
theorem fb3 (u : Nat) (hu0 : 4096 ≤ u) (hu : u < 65536) (w : World) (hc : At4 w) : Calls Tryz.prog 111 #[.slice none 0 0, .int .u64 u, .int .i64 16, .bool false, .bool false] w fun e w' => e = .returned (.tuple #[.slice none 0 0, .string ⟨(hexL u).toArray⟩]) ∧ Below w.heap.size w w' := by
  have e68 : ∀ args w, (callFunc 116 args).run Tryz.prog w = .ok (.enter 116 args) w := enters_of Tryz.func116 (by kernel_rfl) rfl
  have e69 : ∀ args w, (callFunc 117 args).run Tryz.prog w = .ok (.enter 117 args) w := enters_of Tryz.func117 (by kernel_rfl) rfl
  have hca := hc.alloc
  clear hc
  have hX : hexL u = [hd (u / 16 / 16 / 16), hd (u / 16 / 16 % 16), hd (u / 16 % 16), hd (u % 16)] := by unfold hexL; rw [if_neg (by omega)]; rw [if_neg (by omega)]; rw [if_neg (by omega)]
  have hm0 := mask u (by omega)
  obtain ⟨a0, ha0⟩ : ∃ a, a = u % 16 := ⟨_, rfl⟩
  obtain ⟨q1, hq1⟩ : ∃ q, q = u / 16 := ⟨_, rfl⟩
  have hd0 : (u : Int) / 16 = (q1 : Int) := by omega
  rw [← ha0] at hm0
  have hx0 : (a0 : Int) < 36 := by omega
  have hy0 : a0 < 36 := by omega
  have hz0 : a0 < 16 := by omega
  have cg0 : decide ((u : Int) ≥ 16) = true := decide_eq_true (by omega)
  have cl0 : decide ((16 : Int) ≤ (u : Int)) = true := decide_eq_true (by omega)
  rw [← hq1, ← ha0] at hX
  have hm1 := mask q1 (by omega)
  obtain ⟨a1, ha1⟩ : ∃ a, a = q1 % 16 := ⟨_, rfl⟩
  obtain ⟨q2, hq2⟩ : ∃ q, q = q1 / 16 := ⟨_, rfl⟩
  have hd1 : (q1 : Int) / 16 = (q2 : Int) := by omega
  rw [← ha1] at hm1
  have hx1 : (a1 : Int) < 36 := by omega
  have hy1 : a1 < 36 := by omega
  have hz1 : a1 < 16 := by omega
  have cg1 : decide ((q1 : Int) ≥ 16) = true := decide_eq_true (by omega)
  have cl1 : decide ((16 : Int) ≤ (q1 : Int)) = true := decide_eq_true (by omega)
  rw [← hq2, ← ha1] at hX
  have hm2 := mask q2 (by omega)
  obtain ⟨a2, ha2⟩ : ∃ a, a = q2 % 16 := ⟨_, rfl⟩
  obtain ⟨q3, hq3⟩ : ∃ q, q = q2 / 16 := ⟨_, rfl⟩
  have hd2 : (q2 : Int) / 16 = (q3 : Int) := by omega
  rw [← ha2] at hm2
  have hx2 : (a2 : Int) < 36 := by omega
  have hy2 : a2 < 36 := by omega
  have hz2 : a2 < 16 := by omega
  have cg2 : decide ((q2 : Int) ≥ 16) = true := decide_eq_true (by omega)
  have cl2 : decide ((16 : Int) ≤ (q2 : Int)) = true := decide_eq_true (by omega)
  rw [← hq3, ← ha2] at hX
  have hxl : (q3 : Int) < 36 := by omega
  have hyl : q3 < 36 := by omega
  have hzl : q3 < 16 := by omega
  have cg : decide ((q3 : Int) ≥ 16) = false := decide_eq_false (by omega)
  have cl : decide ((16 : Int) ≤ (q3 : Int)) = false := decide_eq_false (by omega)
  have hcv : ∀ (b0 b1 b2 b3 : UInt8), (convert 62 9 (.slice (some ⟨w.heap.size, 61, none⟩) 4 4)).run Tryz.prog (w.alloc (.cells ((((Tryz.zeroCells134.setIfInBounds 64 (.int .u8 (b0.toNat : Int))).setIfInBounds 63 (.int .u8 (b1.toNat : Int))).setIfInBounds 62 (.int .u8 (b2.toNat : Int))).setIfInBounds 61 (.int .u8 (b3.toNat : Int))) 134)) = .ok (.string ⟨#[b3, b2, b1, b0]⟩) (w.alloc (.cells ((((Tryz.zeroCells134.setIfInBounds 64 (.int .u8 (b0.toNat : Int))).setIfInBounds 63 (.int .u8 (b1.toNat : Int))).setIfInBounds 62 (.int .u8 (b2.toNat : Int))).setIfInBounds 61 (.int .u8 (b3.toNat : Int))) 134)) := fun b0 b1 b2 b3 => cv w _ 4 61 [b3, b2, b1, b0] rfl (fun j hj => by
    rw [z134]
    simp only [List.length_cons, List.length_nil] at hj
    rcases (show j = 0 ∨ j = 1 ∨ j = 2 ∨ j = 3 by omega) with rfl | rfl | rfl | rfl <;> simp [Array.getElem?_setIfInBounds])
  clear ha0 hq1 ha1 hq2 ha2 hq3 hu0 hu
  go_enter Tryz.func111, Tryz.ntmps111
  generalize hD : (⟨#[48, 49, 50, 51, 52, 53, 54, 55, 56, 57, 97, 98, 99, 100, 101, 102, 103, 104, 105, 106, 107, 108, 109, 110, 111, 112, 113, 114, 115, 116, 117, 118, 119, 120, 121, 122]⟩ : ByteArray) = D
  have hDs : D.size = 36 := by rw [← hD]; rfl
  have hDd : ∀ i (h : i < D.size), i < 16 → D[i] = hd i := by subst hD; exact fun i h h' => digs i h' h
  clear hD
  go_wp2_with (first | (go_at_fn 116; refine (pow2 _).mono ?_; rintro e w' ⟨rfl, rfl⟩) | (go_at_fn 117; refine (tz _ (hca _)).mono ?_; rintro e w' ⟨rfl, rfl⟩))
  refine wp_loop_rounds 4 ?_
  rw [rounds_succ]
  go_wp2
  rw [rounds_succ]
  go_wp2
  rw [rounds_succ]
  go_wp2
  rw [rounds_succ]
  go_wp2
  go_ret2
  refine ⟨?_, (Below.refl _ _).alloc (Nat.le_refl _) _⟩
  rw [hX]
  rfl
theorem fb (u : Nat) (hu : u < 65536) (w : World) (hc : At4 w) : Calls Tryz.prog 111 #[.slice none 0 0, .int .u64 u, .int .i64 16, .bool false, .bool false] w fun e w' => e = .returned (.tuple #[.slice none 0 0, .string ⟨(hexL u).toArray⟩]) ∧ Below w.heap.size w w' := by
  by_cases h0 : u < 16
  · exact fb0 u (by omega) h0 w hc
  · by_cases h1 : u < 256
    · exact fb1 u (by omega) h1 w hc
    · by_cases h2 : u < 4096
      · exact fb2 u (by omega) h2 w hc
      · exact fb3 u (by omega) hu w hc
theorem fi (u : Nat) (hu : u < 65536) (w : World) (hc : At4 w) : Calls Tryz.prog 97 #[.int .i64 u, .int .i64 16] w fun e w' => e = .returned (.string ⟨(hexL u).toArray⟩) ∧ Below w.heap.size w w' := by
  have e62 : ∀ args w, (callFunc 111 args).run Tryz.prog w = .ok (.enter 111 args) w := enters_of Tryz.func111 (by kernel_rfl) rfl
  have hf := fb u hu w hc
  have hw : IntKind.u64.wrap (u : Int) = (u : Int) := by rw [IntKind.wrap_u64]; omega
  have hn : decide ((u : Int) < 0) = false := decide_eq_false (by omega)
  clear hc
  generalize (⟨(hexL u).toArray⟩ : ByteArray) = s at hf ⊢
  go_enter Tryz.func97, Tryz.ntmps97
  go_wp2_with (go_at_fn 111; refine hf.mono ?_; rintro e w' ⟨rfl, hb⟩)
  go_ret
  exact ⟨rfl, hb⟩
theorem formatInt (u : Nat) (hu : u < 65536) (w : World) (hc : At4 w) : Calls Tryz.prog 86 #[.int .i64 u, .int .i64 16] w fun e w' => e = .returned (.string ⟨(hexL u).toArray⟩) ∧ Below w.heap.size w w' := by
  have e53 : ∀ args w, (callFunc 97 args).run Tryz.prog w = .ok (.enter 97 args) w := enters_of Tryz.func97 (by kernel_rfl) rfl
  have hf := fi u hu w hc
  clear hc
  generalize (⟨(hexL u).toArray⟩ : ByteArray) = s at hf ⊢
  go_enter Tryz.func86, Tryz.ntmps86
  go_wp2_with (go_at_fn 97; refine hf.mono ?_; rintro e w' ⟨rfl, hb⟩)
  go_ret
  exact ⟨rfl, hb⟩
end Go.Proofs.YtbihbbkdciebhaaGreatDoor.Fb
