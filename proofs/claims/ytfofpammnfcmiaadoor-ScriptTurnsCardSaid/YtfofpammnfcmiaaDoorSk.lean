/- Marline, layer 41: a clone; With. Conditions: as each says. -/
import Derived.Test.YtfofpammnfcmiaaDoorSj
import Derived.Lib.SliceRun
namespace Go.Proofs.YtfofpammnfcmiaaDoor.E
open Go.RowKit Go.Proofs.YtfofpammnfcmiaaDoorW.PrintWords Go.Proofs.YtfofpammnfcmiaaDoorW.PrintLast Go.Proofs.YtfofpammnfcmiaaDoorW.PrintMore Go.Proofs.YtfofpammnfcmiaaDoor.Kinds Go.Proofs.YtfofpammnfcmiaaDoor.Obj Go.Proofs.YtfofpammnfcmiaaDoor.Sp
set_option linter.unusedVariables false
set_option linter.unusedSimpArgs false

theorem empty_own (w : World) : Kd.R k32 32 (w.alloc (.cells #[] 32)) w.heap.size (fun _ => True) (.slice (some ⟨w.heap.size, 0, none⟩) 0 0) ([] : List S32) := by
  refine ⟨fun _ _ => trivial, [], ⟨by simp, .inr ⟨w.heap.size, 0, #[], rfl, Nat.le_refl _, blk_new w _, ?_⟩⟩, Reps.none _ _⟩
  simp
set_option maxHeartbeats 4000000 in
set_option maxRecDepth 100000 in
theorem clone_calls (A : Option Addr) (c : Nat) (l : List S32) (w : World) (hr : Kd.C k32 w A l.length l) (hc : l.length ≤ c) (hl : l.length * 24 ≤ 140737488351232) :
    Calls Tryd.prog 64 #[.slice A l.length c] w fun e w' => ∃ v, e = .returned v ∧ Kd.R k32 32 w' w.heap.size (fun _ => True) v l ∧ Below w.heap.size w w' := by
  cases A with
  | none =>
    have hL : l = [] := by
      cases l with
      | nil => rfl
      | cons x xs => obtain ⟨ad, h, _⟩ := hr.2.2 (by simp); cases h
    subst hL
    have hq := fun w => Lib.run_eql_slice_nil w 23 32 none 0 c 0 0 Tryd.underlying23
    show Calls Tryd.prog 64 #[.slice none 0 c] _ _
    go_enter Tryd.func64, Tryd.ntmps64
    go_wp2
    go_ret
    exact ⟨_, rfl, Kd.R_nil _ _ _ _ _, Below.refl _ _⟩
  | some ad =>
    have hq := fun w => Lib.run_eql_slice_nil w 23 32 (some ad) l.length c 0 0 Tryd.underlying23
    have HE := Lib.hid (empty_own w)
    have HC := Lib.hid (Kd.C_alloc hr (Obj.cells #[] 32)); have HL := Lib.hid hl
    have HB := Lib.hid (below_alloc (Below.refl w.heap.size w) (.cells #[] 32))
    clear hr hl hc
    go_enter Tryd.func64, Tryd.ntmps64
    go_wp2_with ((with_reducible refine gate_builtin (b := .append) (xs := #[.tmp 5, .tmp 6]) rfl ?_); at_builtin; refine Kd.R_append_rows k32 (Rr := fun x cs => cs = [.int .i64 x.f0, .int .i64 x.f1, .bool x.f2]) (w0 := w) w.heap.size rfl (.tmp 5) (.tmp 6) 23 32 (.agg #[(.int .i64 0), (.int .i64 0), (.bool false)]) 24 rfl Tryd.underlying23 info32 rfl (by decide) (by omega) (.slice (some ⟨w.heap.size, 0, none⟩) 0 0) [] l (some ad) l.length c (fun _ => True) (fun _ => False) rfl rfl HE.out ?hR (fun x cs h => by rw [h]; exact k32_mkM _ _ _ x) (fun _ h => h.elim) (fun _ _ => trivial) HB.out HB.out.size (by have := HL.out; simp; omega) ?_; (case hR => exact HC.out.imp_ (Below.refl _ _) (fun x cs h => k32_open h)); intro v1 w1 ho hb hg hat; have HO := Lib.hid ho; have HB2 := Lib.hid hb; clear ho hb hg hat)
    go_ret
    exact ⟨v1, rfl, HO.out, HB2.out⟩
set_option maxHeartbeats 8000000 in
set_option maxRecDepth 100000 in
theorem with_calls (A : Option Addr) (c : Nat) (l : List S32) (A2 : Option Addr) (c2 : Nat) (q : List Int) (w : World) (hr : Kd.C k32 w A l.length l) (hc : l.length ≤ c) (hl : l.length * 24 ≤ 140737488351232)
    (hr2 : Kd.C (Kd.int .i64) w A2 q.length q) (hc2 : q.length ≤ c2) (hl2 : q.length ≤ 140737488351232) :
    Calls Tryd.prog 22 #[.slice A l.length c, .slice A2 q.length c2] w fun e w' => ∃ v, e = .returned v ∧ Kd.R k32 32 w' w.heap.size (fun _ => True) v (turns l q) ∧ Below w.heap.size w w' := by
  have hu32 := Tryd.underlying32
  have C1 := Lib.hid (clone_calls A c l w hr hc hl)
  obtain ⟨n, hn⟩ : ∃ n, q.length = n := ⟨_, rfl⟩
  have HR2 := Lib.hid hr2; have HN := Lib.hid hn; have HL := Lib.hid hl
  rw [hn] at hl2 ⊢
  clear hr hr2 hn hc2
  go_enter Tryd.func22, Tryd.ntmps22
  go_wp2_with fail
  refine C1.out.mono ?_
  rintro e w1 ⟨v, rfl, r1, b1⟩
  have R1 := Lib.hid r1; have B1 := Lib.hid b1
  clear C1 r1 b1
  go_wp2_with fail
  obtain ⟨B, d, rfl⟩ := Kd.R_slice R1.out
  go_loopw [12] (fun i w' => ∃ (j : Nat) (L : List S32), i = .int .i64 j ∧ j ≤ n ∧ Hid (L = turns l (q.take j) ∧ L.length = l.length) ∧ Hid (Kd.R k32 32 w' w.heap.size (fun _ => True) (.slice B l.length d) L) ∧ Hid (Below w.heap.size w w')) (fun i _ => n - (intOf i).toNat)
  case atStart => exact ⟨0, l, rfl, Nat.zero_le _, Lib.hid ⟨rfl, rfl⟩, R1, B1⟩
  case round =>
    obtain ⟨j, L, rfl, hj, HT, HR, HB⟩ := hrel
    by_cases hlt : j < n
    · obtain ⟨ad, he, k0⟩ := Kd.at_int (Kd.C_below HR2.out HB.out) (j : Int) (by omega) (by have := HN.out; omega)
      rw [Int.toNat_natCast] at k0
      have hjq : j < q.length := by have := HN.out; omega
      have htk : q.take (j + 1) = q.take j ++ [rd q j] := by
        rw [List.take_add_one, List.getElem?_eq_getElem hjq]
        unfold rd
        rw [Int.toNat_natCast]; simp [List.getD, List.getElem?_eq_getElem hjq]
      have NT := Lib.hid (show turns l (q.take (j + 1)) = turn (turns l (q.take j)) (rd q j) by rw [htk, turns_snoc])
      obtain ⟨x, hx⟩ : ∃ x, rd q j = x := ⟨_, rfl⟩
      rw [hx] at k0 NT
      subst he
      clear hjq htk hx
      by_cases hin : 0 ≤ x ∧ x < (l.length : Int)
      · obtain ⟨m, rfl⟩ : ∃ m : Nat, x = m := ⟨x.toNat, by omega⟩
        have hm : m < L.length := by have := HT.out.2; omega
        obtain ⟨g, cap, hv, hg, q0, q1, hR⟩ := put_gc HR.out m hm
        injection hv with hv1 hv2 hv3
        subst hv1; subst hv3
        have d1 : decide ((0 : Int) ≤ (m : Int)) = true := decide_eq_true (by omega)
        have d2 : decide ((m : Int) < (l.length : Int)) = true := decide_eq_true hin.2
        have d3 : (0 : Int) ≤ (m : Int) := by omega
        have d4 : (m : Int) < (l.length : Int) := hin.2
        have HIN := Lib.hid (show turn L (m : Int) = L.set m (flip (rd_T32 L m)) from turn_in L m hm)
        have HR9 := Lib.hid hR
        have HG := Lib.hid hg
        clear hR hm hin hv2 hg
        go_wp2_with fail
        refine ⟨⟨j + 1, L.set m (flip (rd_T32 L m)), by push_cast; rfl, by omega, Lib.hid ⟨by rw [NT.out, ← HT.out.1, HIN.out], by rw [List.length_set]; exact HT.out.2⟩, HR9, Lib.hid (below_set HB.out HG.out)⟩, ?_⟩
        simp [intOf]; omega
      · have d1 : decide ((0 : Int) ≤ x) = false ∨ (decide ((0 : Int) ≤ x) = true ∧ decide (x < (l.length : Int)) = false) := by
          by_cases h0 : 0 ≤ x
          · exact .inr ⟨decide_eq_true h0, decide_eq_false (by omega)⟩
          · exact .inl (decide_eq_false h0)
        have HOU := Lib.hid (show turn L x = L from turn_out L x (by rw [HT.out.2]; exact hin))
        clear hin
        rcases d1 with d1 | ⟨d1, d2⟩
        all_goals
          go_wp2_with fail
          go_roundw
          case rel => exact ⟨j + 1, L, by push_cast; rfl, by omega, Lib.hid ⟨by rw [NT.out, ← HT.out.1, HOU.out], HT.out.2⟩, HR, HB⟩
          case measure => simp [intOf]; omega
    · have hje : j = n := by omega
      subst hje
      go_wp2_with fail
      go_ret
      refine ⟨_, rfl, ?_, HB.out⟩
      have : L = turns l q := by rw [HT.out.1, List.take_of_length_le (by rw [HN.out]; exact Nat.le_refl _)]
      rw [← this]; exact HR.out
end Go.Proofs.YtfofpammnfcmiaaDoor.E
