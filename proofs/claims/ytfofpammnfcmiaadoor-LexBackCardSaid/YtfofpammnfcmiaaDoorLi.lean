/- Marline, layer 10: the program's classes of bytes; how many stand at a place. Conditions: as each says. -/
import Derived.Test.YtfofpammnfcmiaaDoorLh
namespace Go.Proofs.YtfofpammnfcmiaaDoor.Lx
open Go.RowKit Go.Proofs.YtfofpammnfcmiaaDoorW.PrintWords Go.Proofs.YtfofpammnfcmiaaDoorW.PrintLast Go.Proofs.YtfofpammnfcmiaaDoorW.PrintMore Go.Proofs.YtfofpammnfcmiaaDoor.Obj Go.Proofs.YtfofpammnfcmiaaDoor.Kinds Go.Proofs.YtfofpammnfcmiaaDoor.E
set_option linter.unusedVariables false
set_option linter.unusedSimpArgs false
set_option maxRecDepth 100000
theorem letter_fin : ∀ n : Fin 256, PL.lex_letter.f (n.val : Int) = some (letterB (UInt8.ofNat n.val)) := by decide +kernel
theorem digit_fin : ∀ n : Fin 256, PL.lex_digit.f (n.val : Int) = some (digitB (UInt8.ofNat n.val)) := by decide +kernel
theorem letter_calls (c : UInt8) (w : World) : Calls Tryd.prog 90 #[.int .u8 (c.toNat : Int)] w fun e w' => e = .returned (.bool (letterB c)) ∧ Drawn0 w w' := by
  refine PL.lex_letter.calls _ _ w ?_
  have h := letter_fin ⟨c.toNat, c.toNat_lt⟩
  simpa using h
theorem digit_calls (c : UInt8) (w : World) : Calls Tryd.prog 92 #[.int .u8 (c.toNat : Int)] w fun e w' => e = .returned (.bool (digitB c)) ∧ Drawn0 w w' := by
  refine PL.lex_digit.calls _ _ w ?_
  have h := digit_fin ⟨c.toNat, c.toNat_lt⟩
  simpa using h
theorem name_calls (c : UInt8) (w : World) : Calls Tryd.prog 91 #[.int .u8 (c.toNat : Int)] w fun e w' => e = .returned (.bool (nameB c)) ∧ Drawn0 w w' := by
  have C1 := Lib.hid (fun w => letter_calls c w); have C2 := Lib.hid (fun w => digit_calls c w)
  unfold nameB
  obtain ⟨n, hn⟩ : ∃ n : Int, (c.toNat : Int) = n := ⟨_, rfl⟩
  rw [hn] at C1 C2 ⊢
  obtain ⟨a, ha⟩ : ∃ a, letterB c = a := ⟨_, rfl⟩
  obtain ⟨b, hb⟩ : ∃ a, digitB c = a := ⟨_, rfl⟩
  rw [ha] at C1 ⊢
  rw [hb] at C2 ⊢
  clear hn ha hb
  cases a with
  | true =>
    go_enter Tryd.func91, Tryd.ntmps91
    go_wp2_with fail
    refine (C1.out w).mono ?_
    rintro e w1 ⟨rfl, ⟨n1, rfl⟩⟩
    go_wp2_with fail
    go_ret
    exact ⟨rfl, ⟨_, rfl⟩⟩
  | false =>
    go_enter Tryd.func91, Tryd.ntmps91
    go_wp2_with fail
    refine (C1.out w).mono ?_
    rintro e w1 ⟨rfl, ⟨n1, rfl⟩⟩
    go_wp2_with fail
    refine (C2.out _).mono ?_
    rintro e w2 ⟨rfl, ⟨n2, rfl⟩⟩
    go_wp2_with fail
    go_ret
    exact ⟨rfl, ⟨_, rfl⟩⟩
def notNl (c : UInt8) : Bool := decide (c.toNat ≠ 10)
theorem nl_calls (c : UInt8) (w : World) : Calls Tryd.prog 89 #[.int .u8 (c.toNat : Int)] w fun e w' => e = .returned (.bool (notNl c)) ∧ Drawn0 w w' := by
  have h : notNl c = !((c.toNat : Int) == 10) := by
    unfold notNl
    by_cases h : c.toNat = 10
    · rw [h]; rfl
    · rw [decide_eq_true h, beq_eq_false_iff_ne.2 (by omega)]; rfl
  rw [h]
  obtain ⟨n, hn⟩ : ∃ n : Int, (c.toNat : Int) = n := ⟨_, rfl⟩
  rw [hn]
  clear hn h
  go_enter Tryd.func89, Tryd.ntmps89
  go_wp2_with fail
  go_ret
  exact ⟨rfl, ⟨0, rfl⟩⟩
/-- the lexer in memory: the source, and the place. -/
def Lv (w : World) (g : Nat) (s : ByteArray) (p : Nat) : Prop := w.heap[g]? = some (.cells #[.string s, .int .i64 (p : Int)] 88 (0, 0))
theorem Lv.cells {w : World} {g : Nat} {s : ByteArray} {p : Nat} (h : Lv w g s p) : w.cell? ⟨g, 0, none⟩ = some (.string s) ∧ w.cell? ⟨g, 1, none⟩ = some (.int .i64 (p : Int)) ∧ w.frozen? ⟨g, 0, none⟩ = false ∧ w.frozen? ⟨g, 1, none⟩ = false := ⟨(blk_cell h 0).trans rfl, (blk_cell h 1).trans rfl, blk_frozen h 0, blk_frozen h 1⟩
theorem Lv.below {w w' : World} {g : Nat} {s : ByteArray} {p : Nat} (h : Lv w g s p) (hb : Below w.heap.size w w') : Lv w' g s p := blk_below h hb
theorem Lv.lt {w : World} {g : Nat} {s : ByteArray} {p : Nat} (h : Lv w g s p) : g < w.heap.size := Go.Proofs.YtfofpammnfcmiaaDoorW.PrintWords.blk_lt h
theorem Lv.set {w : World} {g : Nat} {s : ByteArray} {p : Nat} (h : Lv w g s p) (q : Nat) : Lv (w.setCell ⟨g, 1, none⟩ (.int .i64 (q : Int))) g s q := by
  have h1 := blk_set h 1 (.int .i64 (q : Int))
  unfold Lv
  simpa using h1
theorem index_at (s : ByteArray) (p : Nat) (hp : p < s.size) (W : World) : (Instr.index 9 (.string s) (.int .i64 (p : Int))).run Tryd.prog W = .ok (.int .u8 ((s.data.toList.getD p 0).toNat : Int)) W := by
  rw [run_index_string _ _ _ _ _ Tryd.underlying9, dif_pos ⟨by omega, by omega⟩]
  have h := bt_get s p hp
  have h2 := bt_at s (p : Int) (by simpa using hp)
  rw [← h, ← h2]
/- RUNS -/
theorem drawn_one {w w2 : World} {nd : Nat} (d : Drawn0 (w.drewN nd).drew w2) : ∃ n, w2 = w.drewN n := by
  obtain ⟨⟨n, rfl⟩⟩ := d
  refine ⟨nd + 1 + n, ?_⟩
  show (w.drewN (nd + 1)).drewN n = _
  exact World.drewN_drewN _ _ _
theorem drawn_more {w w2 : World} (d : ∃ n, w2 = w.drewN n) : Drawn0 w w2 := ⟨d⟩
theorem wrap_is (x : Int) : IntKind.i64.wrap x = wrap64 x := Go.IntWalk.i64_left x
set_option maxHeartbeats 4000000 in
theorem run92 (s : ByteArray) (p g : Nat) (w : World) (hv : Lv w g s p) (hp : p ≤ s.size) (hs : s.size ≤ 1000000) :
    Calls Tryd.prog 88 #[.pointer (some ⟨g, 0, none⟩), .func (.func 92) #[] #[]] w fun e w' => e = .returned (.int .i64 (((s.data.toList.drop p).takeWhile digitB).length : Nat)) ∧ Drawn0 w w' := by
  have hu88 := Tryd.underlying88
  have hlen : s.data.toList.length = s.size := rfl
  have hle := while_le digitB (s.data.toList.drop p)
  rw [List.length_drop] at hle
  obtain ⟨n, hn⟩ : ∃ n, ((s.data.toList.drop p).takeWhile digitB).length = n := ⟨_, rfl⟩
  rw [hn] at hle ⊢
  have HN := Lib.hid hn; have HV := Lib.hid hv; have HLE := Lib.hid (show p + n ≤ s.size by omega); have HS := Lib.hid hs; have HP := Lib.hid hp
  obtain ⟨m0, m1, t0, t1⟩ := hv.cells
  clear hv hn hle hlen hp hs
  go_enter Tryd.func88, Tryd.ntmps88
  go_wp2_with fail
  go_loopw [5] (fun i w' => ∃ (k : Nat), i = .int .i64 (k : Int) ∧ k ≤ n ∧ Hid (Drawn0 w w')) (fun i _ => n - (intOf i).toNat)
  case atStart => exact ⟨0, rfl, Nat.zero_le _, Lib.hid ⟨0, rfl⟩⟩
  case round =>
    obtain ⟨k, rfl, hk, HD⟩ := hrel
    obtain ⟨nd, rfl⟩ := HD.out
    have HVk := Lib.hid (show Lv (w.drewN nd) g s p from blk_drewN HV.out nd)
    obtain ⟨m0, m1, t0, t1⟩ := HVk.out.cells
    have hw : wrap64 ((p : Int) + (k : Int)) = (p : Int) + (k : Int) := by have := HLE.out; have := HS.out; unfold wrap64; omega
    have hwk : IntKind.i64.wrap ((p : Int) + (k : Int)) = (p : Int) + (k : Int) := by
      rw [show IntKind.i64.wrap ((p : Int) + (k : Int)) = wrap64 ((p : Int) + (k : Int)) from wrap_is _]; exact hw
    have hw2 : wrap64 ((k : Int) + 1) = ((k + 1 : Nat) : Int) := by have := HLE.out; have := HS.out; unfold wrap64; omega
    have HW2 := Lib.hid hw2
    by_cases he : p + k < s.size
    · have p1 : decide ((p : Int) + (k : Int) < (s.size : Int)) = true := decide_eq_true (by omega)
      have p1k : decide (IntKind.i64.wrap ((p : Int) + (k : Int)) < (s.size : Int)) = true := by rw [hwk]; exact p1
      have ix := fun W => index_at s (p + k) he W
      obtain ⟨c, hc⟩ : ∃ c, s.data.toList.getD (p + k) 0 = c := ⟨_, rfl⟩
      rw [hc] at ix
      rw [Int.natCast_add] at ix
      have C := Lib.hid (fun w => digit_calls c w)
      by_cases hkn : k < n
      · have hcc : digitB c = true := by
          have := while_get digitB (s.data.toList.drop p) k (by rw [HN.out]; exact hkn)
          rw [drop_getD, hc] at this; exact this
        rw [hcc] at C
        have HKN := Lib.hid hkn
        clear hc hcc he hkn
        go_upto_region 2 with (fail)
        go_region_held3 (fun w' => w'.cell? ⟨g, 0, none⟩ = some (.string s) ∧ w'.cell? ⟨g, 1, none⟩ = some (.int .i64 (p : Int))) (first | exact ⟨m0, m1⟩ | exact ⟨q0, q1⟩)
          (first | (go_at_call 92; refine (C.out _).mono ?_; rintro e w2 ⟨rfl, d2⟩; have q0 := pw_cell_below d2.below (by exact m0); have q1 := pw_cell_below d2.below (by exact m1); have D2 := Lib.hid d2; have d0 := drawn_one d2; clear d2))
        all_goals
          go_wp2_with fail
          go_roundw
          case rel => exact ⟨k + 1, by first | rw [HW2.out] | (push_cast; rfl), by have := HKN.out; omega, Lib.hid (drawn_more d0)⟩
          case measure => have := HKN.out; first | (rw [HW2.out]; simp [intOf]; omega) | (simp [intOf]; omega)
      · have hkn' : k = n := by omega
        have hcc : digitB c = false := by
          have := while_end digitB (s.data.toList.drop p) (by rw [HN.out, List.length_drop]; have : s.data.toList.length = s.size := rfl; omega)
          rw [HN.out, drop_getD, ← hkn', hc] at this; exact this
        rw [hcc] at C
        have HKN := Lib.hid hkn'
        clear hc hcc he hkn hkn'
        go_upto_region 2 with (fail)
        go_region_held3 (fun w' => w'.cell? ⟨g, 0, none⟩ = some (.string s) ∧ w'.cell? ⟨g, 1, none⟩ = some (.int .i64 (p : Int))) (first | exact ⟨m0, m1⟩ | exact ⟨q0, q1⟩)
          (first | (go_at_call 92; refine (C.out _).mono ?_; rintro e w2 ⟨rfl, d2⟩; have q0 := pw_cell_below d2.below (by exact m0); have q1 := pw_cell_below d2.below (by exact m1); have D2 := Lib.hid d2; have d0 := drawn_one d2; clear d2))
        all_goals
          go_wp2_with fail
          go_ret
          refine ⟨?_, drawn_more d0⟩
          show Ending.returned (.int .i64 (k : Int)) = _
          rw [HKN.out]
    · have hkn : k = n := by have := HLE.out; omega
      have p1 : decide ((p : Int) + (k : Int) < (s.size : Int)) = false := decide_eq_false (by omega)
      have p1k : decide (IntKind.i64.wrap ((p : Int) + (k : Int)) < (s.size : Int)) = false := by rw [hwk]; exact p1
      have HKN := Lib.hid hkn
      clear he hkn
      go_upto_region 2 with (fail)
      go_region
      all_goals
        go_wp2_with fail
        go_ret
        refine ⟨?_, ⟨⟨_, rfl⟩⟩⟩
        show Ending.returned (.int .i64 (k : Int)) = _
        rw [HKN.out]
set_option maxHeartbeats 4000000 in
theorem run91 (s : ByteArray) (p g : Nat) (w : World) (hv : Lv w g s p) (hp : p ≤ s.size) (hs : s.size ≤ 1000000) :
    Calls Tryd.prog 88 #[.pointer (some ⟨g, 0, none⟩), .func (.func 91) #[] #[]] w fun e w' => e = .returned (.int .i64 (((s.data.toList.drop p).takeWhile nameB).length : Nat)) ∧ Drawn0 w w' := by
  have hu88 := Tryd.underlying88
  have hlen : s.data.toList.length = s.size := rfl
  have hle := while_le nameB (s.data.toList.drop p)
  rw [List.length_drop] at hle
  obtain ⟨n, hn⟩ : ∃ n, ((s.data.toList.drop p).takeWhile nameB).length = n := ⟨_, rfl⟩
  rw [hn] at hle ⊢
  have HN := Lib.hid hn; have HV := Lib.hid hv; have HLE := Lib.hid (show p + n ≤ s.size by omega); have HS := Lib.hid hs; have HP := Lib.hid hp
  obtain ⟨m0, m1, t0, t1⟩ := hv.cells
  clear hv hn hle hlen hp hs
  go_enter Tryd.func88, Tryd.ntmps88
  go_wp2_with fail
  go_loopw [5] (fun i w' => ∃ (k : Nat), i = .int .i64 (k : Int) ∧ k ≤ n ∧ Hid (Drawn0 w w')) (fun i _ => n - (intOf i).toNat)
  case atStart => exact ⟨0, rfl, Nat.zero_le _, Lib.hid ⟨0, rfl⟩⟩
  case round =>
    obtain ⟨k, rfl, hk, HD⟩ := hrel
    obtain ⟨nd, rfl⟩ := HD.out
    have HVk := Lib.hid (show Lv (w.drewN nd) g s p from blk_drewN HV.out nd)
    obtain ⟨m0, m1, t0, t1⟩ := HVk.out.cells
    have hw : wrap64 ((p : Int) + (k : Int)) = (p : Int) + (k : Int) := by have := HLE.out; have := HS.out; unfold wrap64; omega
    have hwk : IntKind.i64.wrap ((p : Int) + (k : Int)) = (p : Int) + (k : Int) := by
      rw [show IntKind.i64.wrap ((p : Int) + (k : Int)) = wrap64 ((p : Int) + (k : Int)) from wrap_is _]; exact hw
    have hw2 : wrap64 ((k : Int) + 1) = ((k + 1 : Nat) : Int) := by have := HLE.out; have := HS.out; unfold wrap64; omega
    have HW2 := Lib.hid hw2
    by_cases he : p + k < s.size
    · have p1 : decide ((p : Int) + (k : Int) < (s.size : Int)) = true := decide_eq_true (by omega)
      have p1k : decide (IntKind.i64.wrap ((p : Int) + (k : Int)) < (s.size : Int)) = true := by rw [hwk]; exact p1
      have ix := fun W => index_at s (p + k) he W
      obtain ⟨c, hc⟩ : ∃ c, s.data.toList.getD (p + k) 0 = c := ⟨_, rfl⟩
      rw [hc] at ix
      rw [Int.natCast_add] at ix
      have C := Lib.hid (fun w => name_calls c w)
      by_cases hkn : k < n
      · have hcc : nameB c = true := by
          have := while_get nameB (s.data.toList.drop p) k (by rw [HN.out]; exact hkn)
          rw [drop_getD, hc] at this; exact this
        rw [hcc] at C
        have HKN := Lib.hid hkn
        clear hc hcc he hkn
        go_upto_region 2 with (fail)
        go_region_held3 (fun w' => w'.cell? ⟨g, 0, none⟩ = some (.string s) ∧ w'.cell? ⟨g, 1, none⟩ = some (.int .i64 (p : Int))) (first | exact ⟨m0, m1⟩ | exact ⟨q0, q1⟩)
          (first | (go_at_call 91; refine (C.out _).mono ?_; rintro e w2 ⟨rfl, d2⟩; have q0 := pw_cell_below d2.below (by exact m0); have q1 := pw_cell_below d2.below (by exact m1); have D2 := Lib.hid d2; have d0 := drawn_one d2; clear d2))
        all_goals
          go_wp2_with fail
          go_roundw
          case rel => exact ⟨k + 1, by first | rw [HW2.out] | (push_cast; rfl), by have := HKN.out; omega, Lib.hid (drawn_more d0)⟩
          case measure => have := HKN.out; first | (rw [HW2.out]; simp [intOf]; omega) | (simp [intOf]; omega)
      · have hkn' : k = n := by omega
        have hcc : nameB c = false := by
          have := while_end nameB (s.data.toList.drop p) (by rw [HN.out, List.length_drop]; have : s.data.toList.length = s.size := rfl; omega)
          rw [HN.out, drop_getD, ← hkn', hc] at this; exact this
        rw [hcc] at C
        have HKN := Lib.hid hkn'
        clear hc hcc he hkn hkn'
        go_upto_region 2 with (fail)
        go_region_held3 (fun w' => w'.cell? ⟨g, 0, none⟩ = some (.string s) ∧ w'.cell? ⟨g, 1, none⟩ = some (.int .i64 (p : Int))) (first | exact ⟨m0, m1⟩ | exact ⟨q0, q1⟩)
          (first | (go_at_call 91; refine (C.out _).mono ?_; rintro e w2 ⟨rfl, d2⟩; have q0 := pw_cell_below d2.below (by exact m0); have q1 := pw_cell_below d2.below (by exact m1); have D2 := Lib.hid d2; have d0 := drawn_one d2; clear d2))
        all_goals
          go_wp2_with fail
          go_ret
          refine ⟨?_, drawn_more d0⟩
          show Ending.returned (.int .i64 (k : Int)) = _
          rw [HKN.out]
    · have hkn : k = n := by have := HLE.out; omega
      have p1 : decide ((p : Int) + (k : Int) < (s.size : Int)) = false := decide_eq_false (by omega)
      have p1k : decide (IntKind.i64.wrap ((p : Int) + (k : Int)) < (s.size : Int)) = false := by rw [hwk]; exact p1
      have HKN := Lib.hid hkn
      clear he hkn
      go_upto_region 2 with (fail)
      go_region
      all_goals
        go_wp2_with fail
        go_ret
        refine ⟨?_, ⟨⟨_, rfl⟩⟩⟩
        show Ending.returned (.int .i64 (k : Int)) = _
        rw [HKN.out]
set_option maxHeartbeats 4000000 in
theorem run89 (s : ByteArray) (p g : Nat) (w : World) (hv : Lv w g s p) (hp : p ≤ s.size) (hs : s.size ≤ 1000000) :
    Calls Tryd.prog 88 #[.pointer (some ⟨g, 0, none⟩), .func (.func 89) #[] #[]] w fun e w' => e = .returned (.int .i64 (((s.data.toList.drop p).takeWhile notNl).length : Nat)) ∧ Drawn0 w w' := by
  have hu88 := Tryd.underlying88
  have hlen : s.data.toList.length = s.size := rfl
  have hle := while_le notNl (s.data.toList.drop p)
  rw [List.length_drop] at hle
  obtain ⟨n, hn⟩ : ∃ n, ((s.data.toList.drop p).takeWhile notNl).length = n := ⟨_, rfl⟩
  rw [hn] at hle ⊢
  have HN := Lib.hid hn; have HV := Lib.hid hv; have HLE := Lib.hid (show p + n ≤ s.size by omega); have HS := Lib.hid hs; have HP := Lib.hid hp
  obtain ⟨m0, m1, t0, t1⟩ := hv.cells
  clear hv hn hle hlen hp hs
  go_enter Tryd.func88, Tryd.ntmps88
  go_wp2_with fail
  go_loopw [5] (fun i w' => ∃ (k : Nat), i = .int .i64 (k : Int) ∧ k ≤ n ∧ Hid (Drawn0 w w')) (fun i _ => n - (intOf i).toNat)
  case atStart => exact ⟨0, rfl, Nat.zero_le _, Lib.hid ⟨0, rfl⟩⟩
  case round =>
    obtain ⟨k, rfl, hk, HD⟩ := hrel
    obtain ⟨nd, rfl⟩ := HD.out
    have HVk := Lib.hid (show Lv (w.drewN nd) g s p from blk_drewN HV.out nd)
    obtain ⟨m0, m1, t0, t1⟩ := HVk.out.cells
    have hw : wrap64 ((p : Int) + (k : Int)) = (p : Int) + (k : Int) := by have := HLE.out; have := HS.out; unfold wrap64; omega
    have hwk : IntKind.i64.wrap ((p : Int) + (k : Int)) = (p : Int) + (k : Int) := by
      rw [show IntKind.i64.wrap ((p : Int) + (k : Int)) = wrap64 ((p : Int) + (k : Int)) from wrap_is _]; exact hw
    have hw2 : wrap64 ((k : Int) + 1) = ((k + 1 : Nat) : Int) := by have := HLE.out; have := HS.out; unfold wrap64; omega
    have HW2 := Lib.hid hw2
    by_cases he : p + k < s.size
    · have p1 : decide ((p : Int) + (k : Int) < (s.size : Int)) = true := decide_eq_true (by omega)
      have p1k : decide (IntKind.i64.wrap ((p : Int) + (k : Int)) < (s.size : Int)) = true := by rw [hwk]; exact p1
      have ix := fun W => index_at s (p + k) he W
      obtain ⟨c, hc⟩ : ∃ c, s.data.toList.getD (p + k) 0 = c := ⟨_, rfl⟩
      rw [hc] at ix
      rw [Int.natCast_add] at ix
      have C := Lib.hid (fun w => nl_calls c w)
      by_cases hkn : k < n
      · have hcc : notNl c = true := by
          have := while_get notNl (s.data.toList.drop p) k (by rw [HN.out]; exact hkn)
          rw [drop_getD, hc] at this; exact this
        rw [hcc] at C
        have HKN := Lib.hid hkn
        clear hc hcc he hkn
        go_upto_region 2 with (fail)
        go_region_held3 (fun w' => w'.cell? ⟨g, 0, none⟩ = some (.string s) ∧ w'.cell? ⟨g, 1, none⟩ = some (.int .i64 (p : Int))) (first | exact ⟨m0, m1⟩ | exact ⟨q0, q1⟩)
          (first | (go_at_call 89; refine (C.out _).mono ?_; rintro e w2 ⟨rfl, d2⟩; have q0 := pw_cell_below d2.below (by exact m0); have q1 := pw_cell_below d2.below (by exact m1); have D2 := Lib.hid d2; have d0 := drawn_one d2; clear d2))
        all_goals
          go_wp2_with fail
          go_roundw
          case rel => exact ⟨k + 1, by first | rw [HW2.out] | (push_cast; rfl), by have := HKN.out; omega, Lib.hid (drawn_more d0)⟩
          case measure => have := HKN.out; first | (rw [HW2.out]; simp [intOf]; omega) | (simp [intOf]; omega)
      · have hkn' : k = n := by omega
        have hcc : notNl c = false := by
          have := while_end notNl (s.data.toList.drop p) (by rw [HN.out, List.length_drop]; have : s.data.toList.length = s.size := rfl; omega)
          rw [HN.out, drop_getD, ← hkn', hc] at this; exact this
        rw [hcc] at C
        have HKN := Lib.hid hkn'
        clear hc hcc he hkn hkn'
        go_upto_region 2 with (fail)
        go_region_held3 (fun w' => w'.cell? ⟨g, 0, none⟩ = some (.string s) ∧ w'.cell? ⟨g, 1, none⟩ = some (.int .i64 (p : Int))) (first | exact ⟨m0, m1⟩ | exact ⟨q0, q1⟩)
          (first | (go_at_call 89; refine (C.out _).mono ?_; rintro e w2 ⟨rfl, d2⟩; have q0 := pw_cell_below d2.below (by exact m0); have q1 := pw_cell_below d2.below (by exact m1); have D2 := Lib.hid d2; have d0 := drawn_one d2; clear d2))
        all_goals
          go_wp2_with fail
          go_ret
          refine ⟨?_, drawn_more d0⟩
          show Ending.returned (.int .i64 (k : Int)) = _
          rw [HKN.out]
    · have hkn : k = n := by have := HLE.out; omega
      have p1 : decide ((p : Int) + (k : Int) < (s.size : Int)) = false := decide_eq_false (by omega)
      have p1k : decide (IntKind.i64.wrap ((p : Int) + (k : Int)) < (s.size : Int)) = false := by rw [hwk]; exact p1
      have HKN := Lib.hid hkn
      clear he hkn
      go_upto_region 2 with (fail)
      go_region
      all_goals
        go_wp2_with fail
        go_ret
        refine ⟨?_, ⟨⟨_, rfl⟩⟩⟩
        show Ending.returned (.int .i64 (k : Int)) = _
        rw [HKN.out]
end Go.Proofs.YtfofpammnfcmiaaDoor.Lx
