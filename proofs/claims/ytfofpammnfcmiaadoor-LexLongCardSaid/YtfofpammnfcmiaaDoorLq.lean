/- Marline, layer 10: the law of long sources. Conditions: as each says. -/
import Derived.Test.YtfofpammnfcmiaaDoorLp
namespace Go.Proofs.YtfofpammnfcmiaaDoor.Lx
open Go.RowKit Go.Proofs.YtfofpammnfcmiaaDoorW.PrintWords Go.Proofs.YtfofpammnfcmiaaDoorW.PrintLast Go.Proofs.YtfofpammnfcmiaaDoorW.PrintMore Go.Proofs.YtfofpammnfcmiaaDoor.Obj Go.Proofs.YtfofpammnfcmiaaDoor.Kinds Go.Proofs.YtfofpammnfcmiaaDoor.E
set_option linter.unusedVariables false
set_option linter.unusedSimpArgs false
set_option maxRecDepth 100000
theorem skip_spaces : ∀ n : Nat, skipM false (List.replicate n 32) = n
  | 0 => rfl
  | n + 1 => by rw [List.replicate_succ, skipM, if_pos (by decide), skip_spaces n]
theorem all_spaces : allS (List.replicate 16384 32) = .ok [⟨0, 16384, 0, []⟩] := by
  unfold allS
  rw [if_neg (by rw [List.length_replicate]; omega), List.length_replicate]
  exact all_end 16384 _ 0 16384 (by rw [skip_spaces]) (by rw [skip_spaces]; exact List.drop_eq_nil_of_le (by rw [List.length_replicate]; exact Nat.le_refl _))
theorem info5 : (Tryd.prog.info? 5).map (fun i => (i.zero, i.size, i.bytes)) = some (some (.int .u8 0), 1, 1) := by kernel_rfl
set_option maxHeartbeats 8000000 in
theorem long_walk (m : Nat) (w : World) (hm : m ≤ 255) (h : Tabs w) : Calls Tryd.prog 8 #[.int .u8 (m : Int)] w fun e w' => e = .returned (.bool true) ∧ Below w.heap.size w w' := by
  have W1 := Lib.hid (works_calls w h)
  have HL := Lib.hid h
  have HM := Lib.hid hm
  have e1 : wrap64 (16384 + (m : Int)) = ((16384 + m : Nat) : Int) := by unfold wrap64; omega
  have e2 : IntKind.i64.wrap (m : Int) = (m : Int) := by rw [wrap_is]; unfold wrap64; omega
  have e3 : IntKind.i64.wrap (16384 + (m : Int)) = ((16384 + m : Nat) : Int) := by rw [wrap_is]; exact e1
  clear h hm
  go_enter Tryd.func8, Tryd.ntmps8
  go_wp2_with fail
  refine W1.out.mono ?_
  rintro e w1 ⟨rfl, b1⟩
  have B1 := Lib.hid b1
  clear b1 W1
  go_wp2_with ((with_reducible refine gate_dst (N := 13) rfl ?_); refine Kd.R_make (Kd.int .u8) (w0 := w) w.heap.size 5 rfl rfl 45 (.tmp 12) (.tmp 12) rfl (16384 + (m : Int)) rfl rfl Tryd.underlying45 (.int .u8 0) 1 info5 rfl (by decide) (by decide) (0 : Int) (ok := fun _ => True) (okp := fun _ => False) rfl (fun _ hk => hk.elim) trivial (by omega) (by have := HM.out; omega) B1.out B1.out.size ?_; intro v2 w2 ho hb2 hg2 hat; obtain ⟨g, c, hv, hge, _⟩ := Kd.R_form ho (by rw [List.length_replicate]; omega); subst hv; have HGE := Lib.hid hge; clear hge; have HO := Lib.hid ho; have HB2 := Lib.hid hb2; clear ho hb2 hg2 hat)
  obtain ⟨n, hn⟩ : ∃ n, 16384 + m = n := ⟨_, rfl⟩
  have HN := Lib.hid hn
  have en : (16384 + (m : Int)).toNat = n := by omega
  have HO2 : Hid (Kd.R (Kd.int .u8) 5 w2 w.heap.size (fun _ => True) (.slice (some ⟨g, 0, none⟩) n c) (List.replicate n 0)) := Lib.hid (by have h := HO.out; rw [List.length_replicate, en] at h; exact h)
  simp only [hn]
  clear HO hn en e1 e3
  go_loopw [4] (fun i w' => ∃ (j : Nat) (L : List Int), i = .int .i64 j ∧ j ≤ n ∧ Hid (L.length = n ∧ ∀ q, q < j → L.getD q 0 = 32) ∧ Hid (Kd.R (Kd.int .u8) 5 w' w.heap.size (fun _ => True) (.slice (some ⟨g, 0, none⟩) n c) L) ∧ Hid (Below w.heap.size w w')) (fun i _ => n - (intOf i).toNat)
  case atStart => exact ⟨0, _, rfl, Nat.zero_le _, Lib.hid ⟨List.length_replicate, fun q hq => by omega⟩, HO2, HB2⟩
  case round =>
    obtain ⟨j, L, rfl, hj, HLL, HR, HB⟩ := hrel
    by_cases hlt : j < n
    · obtain ⟨cc, hcl, hK, hcc, hfr⟩ := Kd.R_elem HR.out (0 : Int) (j : Int) (by omega) (by have := HLL.out.1; omega)
      have hK : cc = [.int .u8 (L.getD (j : Int).toNat 0)] := hK
      subst hK
      have k0 : wr.cell? ⟨g, j, none⟩ = some (.int .u8 (L.getD (j : Int).toNat 0)) := by
        have h := hcc 0 _ rfl
        rw [Int.toNat_natCast, show j * (Kd.int .u8).sz + 0 = j from Nat.mul_one j] at h
        exact h
      have f0 : wr.frozen? ⟨g, j, none⟩ = false := by
        have h := hfr 0
        rw [Int.toNat_natCast, show j * (Kd.int .u8).sz + 0 = j from Nat.mul_one j] at h
        exact h
      clear hcl hcc hfr
      have HP := Lib.hid (Kd.R_putn HR.out (j : Int) (32 : Int))
      have HBP := Lib.hid (Ch.to_below HB.out (Ch.setCell (F := fun k => k = g) (p := ⟨g, j, none⟩) (Ch.refl _ wr) (.inl rfl) (.int .u8 32)) (fun k hk => by rw [hk]; exact HGE.out))
      have HW := Lib.hid (show wrap64 ((j : Int) + 1) = (j : Int) + 1 by have := HN.out; have := HM.out; unfold wrap64; omega)
      have hA : (0 : Int) ≤ (j : Int) := by omega
      have hB : (j : Int) < (n : Int) := by omega
      go_wp2_with fail
      go_roundw
      case rel =>
        refine ⟨j + 1, L.set j 32, by rw [HW.out]; push_cast; rfl, by omega, Lib.hid ⟨by rw [List.length_set]; exact HLL.out.1, fun q hq => ?_⟩, Lib.hid (by have h := HP.out; rw [Int.toNat_natCast] at h; exact h), HBP⟩
        by_cases hqj : q = j
        · subst hqj
          rw [List.getD_eq_getElem?_getD, List.getElem?_set_self (by have := HLL.out.1; omega)]; rfl
        · rw [List.getD_eq_getElem?_getD, List.getElem?_set_ne (fun h => hqj h.symm), ← List.getD_eq_getElem?_getD]
          exact HLL.out.2 q (by omega)
      case measure => rw [HW.out]; simp [intOf]; omega
    · have hje : j = n := by omega
      subst hje
      have hL : L = List.replicate j 32 := by
        apply List.ext_getElem
        · rw [List.length_replicate]; exact HLL.out.1
        · intro q h1 h2
          have h3 := HLL.out.2 q (by have := HLL.out.1; omega)
          rw [List.getD_eq_getElem?_getD, List.getElem?_eq_getElem h1] at h3
          rw [List.getElem_replicate]; exact h3
      obtain ⟨hj5, hc, hC⟩ := Kd.R_reads' HR.out
      have cv : (convert 45 9 (.slice (some ⟨g, 0, none⟩) j c)).run Tryd.prog wr = .ok (.string (strOfNums L)) wr := by
        have h := Kd.C_string (P := Tryd.prog) (src := 45) (dst := 9) (c := c) Tryd.underlying45 Tryd.underlying5 Tryd.underlying9 hC
        rw [HLL.out.1] at h
        exact h
      obtain ⟨sB, hs⟩ : ∃ sB, strOfNums L = sB := ⟨_, rfl⟩
      have hsd : sB.data.toList = List.replicate j 32 := by rw [← hs, strOfNums_data, hL, List.map_replicate]; rfl
      have hsz : sB.size = j := by rw [← hs, strOfNums_size, HLL.out.1]
      rw [hs] at cv
      have AC := Lib.hid (allC sB wr (HL.out.below HB.out) (by have := HM.out; have := HN.out; omega))
      rw [hsd] at AC
      clear hj5 hc hC hs hL hsd hsz HLL HR
      by_cases h0 : m = 0
      · have ha : allS (List.replicate j 32) = .ok [⟨0, 16384, 0, []⟩] := by rw [show j = 16384 by have := HN.out; omega]; exact all_spaces
        rw [ha] at AC
        have p0 : ((m : Int) == 0) = true := by rw [beq_iff_eq]; omega
        go_wp2_with fail
        refine AC.out.mono ?_
        rintro e w3 ⟨v, rfl, r3, b3⟩
        have B3 := Lib.hid (HB.out.trans (b3.mono HB.out.size))
        obtain ⟨A3, c3, rfl⟩ := Kd.R_slice r3
        have hC3 := (Kd.R_reads' r3).2.2
        obtain ⟨ad, he, j0, j1, j2, j3⟩ := at_T44 hC3 0 (by decide) (by decide)
        subst he
        have j1 : w3.cell? ⟨ad.block, ad.off + 1, none⟩ = some (.int .i64 16384) := j1
        have e5 : ((toksOf (Except.ok [⟨0, 16384, 0, []⟩])).map enc).length = 1 := rfl
        have e6 : atOf (Except.ok [⟨0, 16384, 0, []⟩]) = 0 := rfl
        have e7 : errOf (Except.ok [⟨0, 16384, 0, []⟩]) = 0 := rfl
        rw [e5, e6, e7]
        clear hC3 r3 b3 e5 e6 e7 j0 j2 j3 AC
        go_wp2_with fail
        go_ret
        exact ⟨rfl, B3.out⟩
      · have ha : allS (List.replicate j 32) = .error (16384, 3) := by unfold allS; rw [if_pos (by rw [List.length_replicate]; have := HN.out; omega)]
        rw [ha] at AC
        have p0 : ((m : Int) == 0) = false := by rw [beq_eq_false_iff_ne]; omega
        go_wp2_with fail
        refine AC.out.mono ?_
        rintro e w3 ⟨v, rfl, r3, b3⟩
        have B3 := Lib.hid (HB.out.trans (b3.mono HB.out.size))
        obtain ⟨A3, c3, rfl⟩ := Kd.R_slice r3
        have e5 : ((toksOf (Except.error (16384, 3))).map enc).length = 0 := rfl
        have e6 : atOf (Except.error (16384, 3)) = 16384 := rfl
        have e7 : errOf (Except.error (16384, 3)) = 3 := rfl
        rw [e5, e6, e7]
        clear r3 b3 e5 e6 e7 AC
        go_wp2_with fail
        go_ret
        exact ⟨rfl, B3.out⟩
theorem long_row (x : Int) (W : World) (h1 : (Lit.int .u8 x).wf = true) (h : Tabs W) : Calls Tryd.prog 8 #[.int .u8 x] W fun e w' => e = .returned (.bool true) ∧ Below W.heap.size W w' := by
  have h2 : 0 ≤ x ∧ x ≤ 255 := by
    have h3 : IntKind.u8.min ≤ x ∧ x ≤ IntKind.u8.max := by simpa [Lit.wf] using h1
    have e1 : IntKind.u8.min = 0 := by decide
    have e2 : IntKind.u8.max = 255 := by decide
    rw [e1, e2] at h3
    exact h3
  obtain ⟨m, rfl⟩ := Int.eq_ofNat_of_zero_le h2.1
  exact long_walk m W (by omega) h
end Go.Proofs.YtfofpammnfcmiaaDoor.Lx
