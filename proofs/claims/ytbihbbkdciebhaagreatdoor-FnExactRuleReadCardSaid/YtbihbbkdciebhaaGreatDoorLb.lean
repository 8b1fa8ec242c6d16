/- strconv.ParseUint at bases 10 and 16, 32 bits; strings.Cut, strings.Contains at this program. -/
import Derived.Test.YtbihbbkdciebhaaGreatDoorLa
namespace Go.Proofs.YtbihbbkdciebhaaGreatDoor.La
open Go.RowKit Go.Proofs.YtbihbbkdciebhaaGreatDoorW.PrintWords Go.Proofs.YtbihbbkdciebhaaGreatDoorW.PrintLast Go.Proofs.YtbihbbkdciebhaaGreatDoorW.PrintMore
set_option linter.unusedVariables false
set_option linter.unusedSimpArgs false

/-! ### strconv.ParseUint at base 16 -/
def low (c : UInt8) : Int := bits BinOp.or IntKind.u8 (c.toNat : Int) 32
/-- A digit of base 16, as ParseUint reads it. -/
def digit16 (c : UInt8) : Option Nat := if 48 ≤ c.toNat ∧ c.toNat ≤ 57 then some (c.toNat - 48) else if 97 ≤ low c ∧ low c ≤ 102 then some (low c - 87).toNat else none
def pu16 (acc : Nat) : List UInt8 → Lib.NumEnd Nat
  | [] => .ok acc
  | c :: r => match digit16 c with
    | none => Lib.NumEnd.syntax
    | some d => if 4294967295 < acc * 16 + d then .range else pu16 (acc * 16 + d) r
section
open Go.Shelf
variable {P : Program} {ρ : Ren}
set_option maxHeartbeats 32000000 in
set_option maxRecDepth 100000 in
theorem pu16_int (L : LaysPu.n16 P ρ) (t : ByteArray) (hne : t.size ≠ 0) (hmax : t.size ≤ 9223372036854775806) (w : World) :
    Calls P (ρ.f 16) #[.string t, .int .i64 16, .int .i64 32] w fun e w' => e = .returned (Lib.uintTupleM (ρ.t 34) 4294967295 (pu16 0 t.data.toList)) ∧ w' = Lib.bytesWorld w (ρ.t 5) t := by
  have mixed := L.mixed
  have t9 := L.t9; have a9 := L.a9; have z9 := L.z9; have v9 := L.v9
  have t3 := L.t3; have a3 := L.a3; have z3 := L.z3; have v3 := L.v3
  have t22 := L.t22; have a22 := L.a22; have z22 := L.z22; have v22 := L.v22
  have t24 := L.t24; have a24 := L.a24; have z24 := L.z24; have v24 := L.v24
  have t4 := L.t4; have a4 := L.a4; have z4 := L.z4; have v4 := L.v4
  have t34 := L.t34; have a34 := L.a34; have z34 := L.z34; have v34 := L.v34
  have t5 := L.t5; have a5 := L.a5; have z5 := L.z5; have v5 := L.v5
  have t36 := L.t36; have a36 := L.a36; have z36 := L.z36; have v36 := L.v36
  have t37 := L.t37; have a37 := L.a37; have z37 := L.z37; have v37 := L.v37
  have t0 := L.t0; have a0 := L.a0; have z0 := L.z0; have v0 := L.v0
  have e19 : ∀ args w, (callFunc (ρ.f 19) args).run P w = .ok (.enter (ρ.f 19) args) w := enters_of L.f19 (by kernel_rfl) rfl
  have hemp : t.toList.isEmpty = false := by
    rw [← decide_eq_emptyBytes]
    exact decide_eq_false (fun h => hne (by rw [h]; rfl))
  have hcv := Lib.run_convert_string_bytes (P := P) w (ρ.t 9) (ρ.t 37) (ρ.t 5) t (u := .string) L.t9 L.t37 L.t5
  have hB : ∀ j, j < t.size → (Lib.bytesWorld w (ρ.t 5) t).cell? ⟨w.heap.size, j, none⟩ = some (.int .u8 (t.data.toList.getD j 0).toNat) := fun j hj => Lib.bytesWorld_cell w (ρ.t 5) t j hj
  obtain ⟨W1, hW1⟩ : ∃ W1, W1 = Lib.bytesWorld w (ρ.t 5) t := ⟨_, rfl⟩
  rw [← hW1] at hcv hB ⊢
  clear hW1
  obtain ⟨bs, hL⟩ : ∃ bs, bs = t.data.toList := ⟨_, rfl⟩
  have hLn : bs.length = t.size := by rw [hL, Lib.size_eq]
  rw [← hL] at hB ⊢
  clear hL
  have hmv : IntKind.u64.wrap (IntKind.u64.wrap 4294967296 - 1) = 4294967295 := by
    rw [IntKind.wrap_u64, IntKind.wrap_u64]
    decide
  go_enter L.f16, BodyPu.n16_ntmps ρ
  go_wp2
  go_loop [12, 13, 101] (fun vu vn vi => ∃ (k acc : Nat) (a : Int), vu = .bool false ∧ vn = .int .u64 a ∧ vi = .int .i64 k ∧ k ≤ t.size ∧ Hid (a = (acc : Int) ∧ acc ≤ 4294967295 ∧ pu16 0 bs = pu16 acc (bs.drop k)))
    (fun _ _ vi => t.size - (intOf vi).toNat)
  case atStart => exact ⟨0, 0, 0, rfl, rfl, rfl, by omega, rfl, by omega, rfl⟩
  case round =>
    obtain ⟨k, acc, a, rfl, rfl, rfl, hk, hh⟩ := hrel
    obtain ⟨ha, hacc, hdec⟩ := hh.out
    clear hh
    have a0 : 0 ≤ a := by omega
    have a1 : a ≤ 4294967295 := by omega
    by_cases hkn : k < t.size
    · have hc := hB k hkn
      have hdrop : bs.drop k = bs[k]'(by omega) :: bs.drop (k + 1) := List.drop_eq_getElem_cons (by omega)
      have hget : bs.getD k 0 = bs[k]'(by omega) := by simp [List.getD, List.getElem?_eq_getElem (show k < bs.length by omega)]
      rw [hdrop] at hdec
      rw [hget] at hc
      generalize bs[k]'(by omega) = c at hc hdec
      have hc256 : c.toNat < 256 := c.toNat_lt
      clear hB hdrop hget
      by_cases hdig : 48 ≤ c.toNat ∧ c.toNat ≤ 57
      · have hD : digit16 c = some (c.toNat - 48) := by unfold digit16; rw [if_pos hdig]
        obtain ⟨hd0, hd1⟩ := hdig
        by_cases hov : 4294967295 < acc * 16 + (c.toNat - 48)
        · have hF : pu16 acc (c :: bs.drop (k + 1)) = .range := by simp [pu16, hD, hov]
          rw [hF] at hdec
          have iov : 4294967295 < a * 16 + ((c.toNat : Int) - 48) := by omega
          clear hacc hF hov ha hD
          go_wp2
          go_ret2
          exact ⟨rfl, rfl⟩
        · have hF : pu16 acc (c :: bs.drop (k + 1)) = pu16 (acc * 16 + (c.toNat - 48)) (bs.drop (k + 1)) := by simp [pu16, hD, hov]
          have HN : Hid (a * 16 + ((c.toNat : Int) - 48) = ((acc * 16 + (c.toNat - 48) : Nat) : Int) ∧ acc * 16 + (c.toNat - 48) ≤ 4294967295 ∧ pu16 0 bs = pu16 (acc * 16 + (c.toNat - 48)) (bs.drop (k + 1))) := Lib.hid ⟨by omega, by omega, hdec.trans hF⟩
          have iov : a * 16 + ((c.toNat : Int) - 48) ≤ 4294967295 := by omega
          clear hacc hF hov hdec ha hD
          go_wp2
          refine ⟨⟨k + 1, acc * 16 + (c.toNat - 48), a * 16 + ((c.toNat : Int) - 48), rfl, (by first | rfl | (congr 1; omega)), (by first | rfl | (congr 1; omega)), by omega, HN⟩, by simp [intOf]; omega⟩
      · have hD0 : digit16 c = if 97 ≤ low c ∧ low c ≤ 102 then some (low c - 87).toNat else none := by unfold digit16; rw [if_neg hdig]
        have hv0 : 0 ≤ low c := bits_lo_u8 .or (c.toNat : Int) 32
        have hv1 : low c ≤ 255 := bits_hi_u8 .or (c.toNat : Int) 32
        have HLo : ∀ w, Calls P (ρ.f 19) #[.int .u8 (c.toNat : Int)] w fun e w' => e = .returned (.int .u8 (low c)) ∧ w' = w := fun w => AnyPu.internal_strconv_lower { L with } (c.toNat : Int) w
        have h95 : ¬ ((c.toNat : Int) = 95 ∧ 97 ≤ low c ∧ low c ≤ 102) := by
          rintro ⟨h, h1, h2⟩
          unfold low at h2
          rw [h] at h2
          revert h2
          decide
        generalize low c = v at hD0 hv0 hv1 HLo h95
        by_cases hlet : 97 ≤ v ∧ v ≤ 102
        · rw [if_pos hlet] at hD0
          obtain ⟨hl0, hl1⟩ := hlet
          have hn95 : ((c.toNat : Int) == 95) = false := beq_eq_false_iff_ne.mpr (fun h => h95 ⟨h, hl0, hl1⟩)
          have hn95' : (c.toNat : Int) ≠ 95 := fun h => h95 ⟨h, hl0, hl1⟩
          clear h95
          by_cases hov : 4294967295 < acc * 16 + (v - 87).toNat
          · have hF : pu16 acc (c :: bs.drop (k + 1)) = .range := by simp [pu16, hD0, hov]
            rw [hF] at hdec
            have iov : 4294967295 < a * 16 + (v - 97 + 10) := by omega
            clear hacc hF hov ha hD0
            go_wp2_with (go_at_fn (ρ.f 19); refine (HLo _).mono ?_; rintro e w' ⟨rfl, rfl⟩)
            all_goals go_ret2
            all_goals first | exact ⟨rfl, rfl⟩ | exact ⟨by rw [hdec]; rfl, rfl⟩
          · have hF : pu16 acc (c :: bs.drop (k + 1)) = pu16 (acc * 16 + (v - 87).toNat) (bs.drop (k + 1)) := by simp [pu16, hD0, hov]
            have HN : Hid (a * 16 + (v - 97 + 10) = ((acc * 16 + (v - 87).toNat : Nat) : Int) ∧ acc * 16 + (v - 87).toNat ≤ 4294967295 ∧ pu16 0 bs = pu16 (acc * 16 + (v - 87).toNat) (bs.drop (k + 1))) := Lib.hid ⟨by omega, by omega, hdec.trans hF⟩
            have iov : a * 16 + (v - 97 + 10) ≤ 4294967295 := by omega
            clear hacc hF hov hdec ha hD0
            go_wp2_with (go_at_fn (ρ.f 19); refine (HLo _).mono ?_; rintro e w' ⟨rfl, rfl⟩)
            all_goals refine ⟨⟨k + 1, acc * 16 + (v - 87).toNat, a * 16 + (v - 97 + 10), rfl, (by first | rfl | (congr 1; omega)), (by first | rfl | (congr 1; omega)), by omega, HN⟩, by simp [intOf]; omega⟩
        · rw [if_neg hlet] at hD0
          have hF : pu16 acc (c :: bs.drop (k + 1)) = Lib.NumEnd.syntax := by simp [pu16, hD0]
          rw [hF] at hdec
          clear hacc hF ha hD0 h95
          by_cases h95 : (c.toNat : Int) = 95
          · have HL : ∀ w, Calls P (ρ.f 19) #[.int .u8 95] w fun e w' => e = .returned (.int .u8 127) ∧ w' = w := fun w => by
              have h := AnyPu.internal_strconv_lower { L with } 95 w
              rw [show bits BinOp.or IntKind.u8 95 32 = 127 by decide] at h
              exact h
            rw [h95] at hc
            clear HLo hlet hv0 hv1 h95 hc256 hdig
            go_wp2_with (go_at_fn (ρ.f 19); refine (HL _).mono ?_; rintro e w' ⟨rfl, rfl⟩)
            all_goals go_ret2
            all_goals first | exact ⟨rfl, rfl⟩ | exact ⟨by rw [hdec]; rfl, rfl⟩
          · have hn95 : ((c.toNat : Int) == 95) = false := beq_eq_false_iff_ne.mpr h95
            rcases (show v < 97 ∨ 102 < v by omega) with hb | hb
            all_goals clear hlet
            all_goals go_wp2_with (go_at_fn (ρ.f 19); refine (HLo _).mono ?_; rintro e w' ⟨rfl, rfl⟩)
            all_goals go_ret2
            all_goals first | exact ⟨rfl, rfl⟩ | exact ⟨by rw [hdec]; rfl, rfl⟩
    · have hkk : k = t.size := by omega
      subst hkk
      have hF : pu16 acc (bs.drop t.size) = .ok acc := by rw [List.drop_eq_nil_of_le (by omega)]; rfl
      rw [hF] at hdec
      subst ha
      clear hacc hF a0 a1
      go_wp2
      go_ret2
      exact ⟨rfl, rfl⟩
end
/-- The number that ParseUint hands back, whatever the error. -/
def numOf : Lib.NumEnd Nat → Nat
  | .ok u => u
  | .range => 4294967295
  | _ => 0
def pu16B (l : List UInt8) : Lib.NumEnd Nat := if l = [] then Lib.NumEnd.syntax else pu16 0 l
theorem int16 (s : ByteArray) (hs : s.size ≤ 1048576) (w : World) : Calls Tryz.prog 94 #[.string s, .int .i64 16, .int .i64 32] w fun e w' => e = .returned (Lib.uintTupleM 90 4294967295 (pu16B s.data.toList)) ∧ Below w.heap.size w w' := by
  by_cases h0 : s.size = 0
  · have ht : s = ⟨#[]⟩ := ByteArray.ext (Array.eq_empty_of_size_eq_zero h0)
    subst ht
    exact (AnyPu.internal_strconv_ParseUint_empty { Tryz.laysPu with } 16 32 w).mono fun e w' ⟨he, hw⟩ => ⟨he, by rw [hw]; exact Below.refl _ _⟩
  · have hne : s.data.toList ≠ [] := fun h => h0 (by rw [Lib.size_eq, h]; rfl)
    refine (pu16_int { Tryz.laysPu with } s h0 (by omega) w).mono fun e w' ⟨he, hw⟩ => ⟨?_, by rw [hw]; exact Lib.bytesWorld_below _ _ _⟩
    rw [he, pu16B, if_neg hne]
    rfl
theorem int10 (s : ByteArray) (hs : s.size ≤ 1048576) (w : World) : Calls Tryz.prog 94 #[.string s, .int .i64 10, .int .i64 32] w fun e w' => e = .returned (Lib.uintTupleM 90 4294967295 (Lib.parseUintB 32 s.data.toList)) ∧ Below w.heap.size w w' :=
  (AnyPu.internal_strconv_ParseUint_10_at32 { Tryz.laysPu with } s (by omega) w).mono fun e w' ⟨he, hw⟩ => ⟨he, by
    rcases hw with rfl | rfl
    · exact Below.refl _ _
    · exact Lib.bytesWorld_below _ _ _⟩
/-- strconv.ParseUint over what the inner one says. -/
theorem outer (b : Int) (s : ByteArray) (hs : s.size ≤ 1048576) (R : Lib.NumEnd Nat) (w : World) (hE : Env w) (hI : Calls Tryz.prog 94 #[.string s, .int .i64 b, .int .i64 32] w fun e w' => e = .returned (Lib.uintTupleM 90 4294967295 R) ∧ Below w.heap.size w w') :
    Calls Tryz.prog 82 #[.string s, .int .i64 b, .int .i64 32] w fun e w' => ∃ ev, e = .returned (.tuple #[.int .u64 (numOf R), ev]) ∧ Below w.heap.size w w' := by
  have e94 : ∀ args w, (callFunc 94 args).run Tryz.prog w = .ok (.enter 94 args) w := enters_of Tryz.func94 (by kernel_rfl) rfl
  have e49 : ∀ args w, (callFunc 49 args).run Tryz.prog w = .ok (.enter 49 args) w := enters_of Tryz.func49 (by kernel_rfl) rfl
  cases R with
  | ok u =>
    have HI := Gv.a0 hI
    clear hI hE
    go_enter Tryz.func82, Tryz.ntmps82
    go_wp2_with (go_at_fn 94; refine HI.out.mono ?_; rintro e w' ⟨rfl, hb⟩; unfold Lib.uintTupleM)
    go_ret2
    exact ⟨_, rfl, hb⟩
  | range =>
    obtain ⟨_, _, _, ⟨tp, p, hS⟩, _⟩ := hE
    have hc : w.cell? ⟨2, 0, none⟩ = some (.iface tp p) := (show w.cell? ⟨2, 0, none⟩ = _ from World.var?_cell Tryz.laysPu.m1 hS 0).trans rfl
    have HT : ∀ W, Below w.heap.size w W → Calls Tryz.prog 49 #[.string ⟨#[80, 97, 114, 115, 101, 85, 105, 110, 116]⟩, .string s, .int .i64 b, .int .i64 32, .iface 90 (.int .i64 1)] W fun e w' => ∃ ev, e = .returned ev ∧ Below W.heap.size W w' := fun W hW =>
      (AnyPu.strconv_toError_range { Tryz.laysPu with } ⟨#[80, 97, 114, 115, 101, 85, 105, 110, 116]⟩ s b 32 (.iface tp p) W (by omega) ((hW.cell (World.block_lt_of_cell? _ _ hc)).trans hc) (Or.inr ⟨tp, p, rfl⟩)).mono fun e w' ⟨N, he, _, _, hb⟩ => ⟨_, he, hb⟩
    have HI := Gv.a0 hI
    clear hI hS hc
    go_enter Tryz.func82, Tryz.ntmps82
    go_wp2_with (first | (go_at_fn 94; refine HI.out.mono ?_; rintro e w' ⟨rfl, hb⟩; unfold Lib.uintTupleM) | (go_at_fn 49; refine (HT _ hb).mono ?_; rintro e w'' ⟨ev, rfl, hb2⟩))
    go_ret2
    exact ⟨_, rfl, below_step hb hb2⟩
  | _ =>
    obtain ⟨_, _, ⟨tp, p, hS⟩, _, _⟩ := hE
    have hc : w.cell? ⟨1, 0, none⟩ = some (.iface tp p) := (show w.cell? ⟨1, 0, none⟩ = _ from World.var?_cell Tryz.laysPu.m0 hS 0).trans rfl
    have HT : ∀ W, Below w.heap.size w W → Calls Tryz.prog 49 #[.string ⟨#[80, 97, 114, 115, 101, 85, 105, 110, 116]⟩, .string s, .int .i64 b, .int .i64 32, .iface 90 (.int .i64 2)] W fun e w' => ∃ ev, e = .returned ev ∧ Below W.heap.size W w' := fun W hW =>
      (AnyPu.strconv_toError_syntax { Tryz.laysPu with } ⟨#[80, 97, 114, 115, 101, 85, 105, 110, 116]⟩ s b 32 (.iface tp p) W (by omega) ((hW.cell (World.block_lt_of_cell? _ _ hc)).trans hc) (Or.inr ⟨tp, p, rfl⟩)).mono fun e w' ⟨N, he, _, _, hb⟩ => ⟨_, he, hb⟩
    have HI := Gv.a0 hI
    clear hI hS hc
    go_enter Tryz.func82, Tryz.ntmps82
    go_wp2_with (first | (go_at_fn 94; refine HI.out.mono ?_; rintro e w' ⟨rfl, hb⟩; unfold Lib.uintTupleM) | (go_at_fn 49; refine (HT _ hb).mono ?_; rintro e w'' ⟨ev, rfl, hb2⟩))
    go_ret2
    exact ⟨_, rfl, below_step hb hb2⟩
/-- What ParseUint reads at base b (10 or 16), 32 bits. -/
def puV (b : Int) (s : ByteArray) : Nat := if b = 16 then numOf (pu16B s.data.toList) else numOf (Lib.parseUintB 32 s.data.toList)
theorem pu_calls (b : Int) (hb : b = 16 ∨ b = 10) (s : ByteArray) (hs : s.size ≤ 1048576) (w : World) (hE : Env w) :
    Calls Tryz.prog 82 #[.string s, .int .i64 b, .int .i64 32] w fun e w' => ∃ ev, e = .returned (.tuple #[.int .u64 (puV b s), ev]) ∧ Below w.heap.size w w' := by
  rcases hb with rfl | rfl
  · exact outer 16 s hs _ w hE (int16 s hs w)
  · exact outer 10 s hs _ w hE (int10 s hs w)
theorem cut_calls (s sep : ByteArray) (r1 r2 : ByteArray) (r3 : Bool) (w : World) (hE : Env w) (h : (if s.size ≤ 1048576 then some ((⟨(Lib.cut s.data.toList sep.data.toList).1.toArray⟩ : ByteArray), (⟨(Lib.cut s.data.toList sep.data.toList).2.1.toArray⟩ : ByteArray), (Lib.cut s.data.toList sep.data.toList).2.2) else none) = some (r1, r2, r3)) :
    Calls Tryz.prog 17 #[.string s, .string sep] w fun e w' => e = .returned (.tuple #[.string r1, .string r2, .bool r3]) ∧ Below w.heap.size w w' := by
  by_cases hs : s.size ≤ 1048576
  · rw [if_pos hs] at h
    simp only [Option.some.injEq, Prod.mk.injEq] at h
    obtain ⟨rfl, rfl, rfl⟩ := h
    obtain ⟨_, _, _, _, ⟨m, hm⟩⟩ := hE
    exact (Any.strings_Cut Tryz.laysCut s sep m w (by omega) hm).mono fun e w' ⟨he, n, hw⟩ => ⟨he, by rw [hw]; exact pw_below_drewN (Below.refl _ _) n⟩
  · rw [if_neg hs] at h
    cases h
theorem contains_calls (s : ByteArray) (c : UInt8) (w : World) : Calls Tryz.prog 53 #[.string s, .string ⟨#[c]⟩] w fun e w' => e = .returned (.bool (decide (0 ≤ Lib.indexByte s.data.toList c))) ∧ Below w.heap.size w w' :=
  (Any.strings_Contains_one Tryz.laysCont s c w).mono fun e w' ⟨he, hw⟩ => ⟨he, by rw [hw]; exact Below.refl _ _⟩
end Go.Proofs.YtbihbbkdciebhaaGreatDoor.La
