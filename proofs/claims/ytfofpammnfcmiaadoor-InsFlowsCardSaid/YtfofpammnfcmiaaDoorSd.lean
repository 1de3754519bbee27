/- Marline, layer 41: a schedule's text by the program. Conditions: as each says. -/
import Derived.Test.YtfofpammnfcmiaaDoorSc
namespace Go.Proofs.YtfofpammnfcmiaaDoor.E
open Go.RowKit Go.Proofs.YtfofpammnfcmiaaDoorW.PrintWords Go.Proofs.YtfofpammnfcmiaaDoorW.PrintLast Go.Proofs.YtfofpammnfcmiaaDoorW.PrintMore Go.Proofs.YtfofpammnfcmiaaDoor.Kinds Go.Proofs.YtfofpammnfcmiaaDoor.Obj Go.Proofs.YtfofpammnfcmiaaDoor.Sp
set_option linter.unusedVariables false
set_option linter.unusedSimpArgs false

theorem info9 : (Tryd.prog.info? 9).map (fun i => (i.zero, i.size, i.bytes)) = some (some (.string ⟨#[]⟩), 1, 16) := by kernel_rfl
/-- an own row of strings: nil, or its cells. -/
theorem own_strs {w : World} {base : Nat} {ok : Nat → Prop} {v : Value} {T : List ByteArray} (h : Kd.R Kd.string 9 w base ok v T) :
    (v = .slice none 0 0 ∧ T = []) ∨ ∃ g c, v = .slice (some ⟨g, 0, none⟩) T.length c ∧ T.length ≤ c ∧ g < w.heap.size ∧ ∀ (j : Nat) x, T[j]? = some x → w.cell? ⟨g, 0 + j, none⟩ = some (.string x) := by
  have h2 := h
  obtain ⟨_, inner, hown, _⟩ := h2
  rcases hown.2 with ⟨hv, hn⟩ | ⟨g, cap, cur, hv, _, hg, hc, _⟩
  · exact .inl ⟨hv, List.length_eq_zero_iff.1 hn⟩
  · subst hv
    refine .inr ⟨g, cap, rfl, hc, blk_lt hg, ?_⟩
    intro j x hx
    have hC := (Kd.R_reads' h).2.2
    have hl : 0 < T.length := by
      have := (List.getElem?_eq_some_iff.1 hx).1
      omega
    obtain ⟨ad, he, hq⟩ := hC.2.2 hl
    injection he with he
    subst he
    obtain ⟨c, hcl, hK, hcell⟩ := hq j x hx
    have hc1 : c = [.string x] := hK
    subst hc1
    have h3 := hcell 0 _ rfl
    have hs : Kd.string.sz = 1 := rfl
    rw [hs, Addr.add_lit, show 0 + (j * 1 + 0) = 0 + j by omega] at h3
    exact h3
def words (l : List S32) : List (List UInt8) := (l.map tk).map word
set_option maxHeartbeats 8000000 in
set_option maxRecDepth 100000 in
theorem text41_calls (A : Option Addr) (c : Nat) (l : List S32) (w : World) (hr : Kd.C k32 w A l.length l) (hc : l.length ≤ c) (hx : ∀ x ∈ l, (tk x).ok) (hl : l.length ≤ 1000) (h : Lw w) :
    Calls Tryd.prog 18 #[.slice A l.length c] w fun e w' => e = .returned (.string (tx l)) ∧ Below w.heap.size w w' := by
  have hu32 := Tryd.underlying32
  obtain ⟨n, hn⟩ : ∃ n, l.length = n := ⟨_, rfl⟩
  have HR := Lib.hid hr; have HC := Lib.hid hc; have HX := Lib.hid hx; have HN := Lib.hid hn; have HL := Lib.hid h
  rw [hn] at hl ⊢
  clear hr hc hx hn h
  go_enter Tryd.func18, Tryd.ntmps18
  go_wp2_with fail
  go_loopw [3, 9] (fun o i w' => ∃ (j : Nat) (T : List ByteArray), i = .int .i64 j ∧ j ≤ n ∧ Hid (T.length = j ∧ T.map (·.data.toList) = words (l.take j)) ∧ Hid (Kd.R Kd.string 9 w' w.heap.size (fun _ => True) o T) ∧ Hid (Below w.heap.size w w')) (fun o i _ => n - (intOf i).toNat)
  case atStart => exact ⟨0, [], rfl, Nat.zero_le _, Lib.hid ⟨rfl, rfl⟩, Lib.hid (Kd.R_nil _ _ _ _ _), Lib.hid (Below.refl _ _)⟩
  case round =>
    obtain ⟨j, T, rfl, hj, HT, HR2, HB⟩ := hrel
    by_cases hlt : j < n
    · obtain ⟨B, d, rfl⟩ := Kd.R_slice HR2.out
      have hjl : j < l.length := by have := HN.out; omega
      obtain ⟨ad, he, k0, k1, k2⟩ := at_T32 (Kd.C_below HR.out HB.out) (j : Int) (by omega) (by omega)
      rw [Int.toNat_natCast] at k0 k1 k2
      have hm := HX.out _ (rd_mem l j hjl)
      have IN0 := Lib.hid (show In (rd_T32 l j).f0 from hm.1)
      have IN1 := Lib.hid (show In (rd_T32 l j).f1 from hm.2)
      have z1 := itoa_size _ IN0.out
      have z2 := itoa_size _ IN1.out
      obtain ⟨p0, hp0⟩ : ∃ p, (⟨(Lib.itoa (rd_T32 l j).f0).toArray⟩ : ByteArray) = p := ⟨_, rfl⟩
      obtain ⟨p1, hp1⟩ : ∃ p, (⟨(Lib.itoa (rd_T32 l j).f1).toArray⟩ : ByteArray) = p := ⟨_, rfl⟩
      have Q0 := Lib.hid (fun w h => text_calls _ w IN0.out h)
      have Q1 := Lib.hid (fun w h => text_calls _ w IN1.out h)
      have HW := Lib.hid (show word (tk (rd_T32 l j)) = p0.data.toList ++ 47 :: (p1.data.toList ++ (if (rd_T32 l j).f2 = true then [103] else [])) by
        rw [← hp0, ← hp1]; unfold word tk; simp)
      have NT := Lib.hid (show words (l.take (j + 1)) = words (l.take j) ++ [word (tk (rd_T32 l j))] by
        unfold words; rw [take_at l j hjl]; simp)
      rw [hp0] at z1 Q0
      rw [hp1] at z2 Q1
      obtain ⟨y, hy⟩ : ∃ y, rd_T32 l j = y := ⟨_, rfl⟩
      rw [hy] at k0 k1 k2 Q0 Q1 NT HW
      subst he
      clear hm hp0 hp1 hy IN0 IN1 hjl
      have hA : (0 : Int) ≤ (j : Int) := by omega
      go_upto_region 5 with (fail)
      obtain ⟨g, hg⟩ : ∃ g, wr.heap.size = g := ⟨_, rfl⟩
      have H3 : ∃ w3 : World, wr.alloc (.cells #[.int .i64 y.f0, .int .i64 y.f1, .bool y.f2] 32) = w3 ∧ Pv w3 g y ∧ Kd.R Kd.string 9 w3 w.heap.size (fun _ => True) (.slice B T.length d) T ∧ Below w.heap.size w w3 :=
        ⟨_, rfl, by rw [← hg]; exact blk_new wr _, Kd.R_alloc HR2.out _, below_alloc HB.out _⟩
      rw [hg]
      obtain ⟨w3, hw3, v3, r3, b3⟩ := H3
      rw [hw3]
      have V3 := Lib.hid v3; have R3 := Lib.hid r3; have B3 := Lib.hid b3
      obtain ⟨m0, m1, m2, f0, f1, f2⟩ := v3.cells
      have P3 := Lib.hid (HL.out.below b3).p
      clear hw3 v3 r3 b3 HR2 HB hg k0 k1 k2
      have zz : (p0 ++ (⟨#[47]⟩ : ByteArray)).size = p0.size + 1 := by rw [ByteArray.size_append]; rfl
      have zc1 := eq_true (show p0.size + 1 ≤ 9223372036854775807 by omega)
      have zc2 : (9223372036854775807 < p0.size + 1) = False := eq_false (by omega)
      have zd1 := eq_true (show (p0 ++ (⟨#[47]⟩ : ByteArray)).size + p1.size ≤ 9223372036854775807 by omega)
      have zd2 : (9223372036854775807 < (p0 ++ (⟨#[47]⟩ : ByteArray)).size + p1.size) = False := eq_false (by omega)
      have ze1 := eq_true (show p0.size + 1 + p1.size ≤ 9223372036854775807 by omega)
      have ze2 : (9223372036854775807 < p0.size + 1 + p1.size) = False := eq_false (by omega)
      go_region_held3 (fun w' => w'.cell? ⟨g, 0, none⟩ = some (.int .i64 y.f0) ∧ w'.cell? ⟨g, 1, none⟩ = some (.int .i64 y.f1)) (first | exact ⟨m0, m1⟩ | exact ⟨q0, q1⟩ | exact ⟨s0, s1⟩)
        (first
          | (go_at_call 62; refine (Q0.out w3.drew (show Pow w3.drew from P3.out)).mono ?_; rintro e w4 ⟨rfl, b4⟩; have P4 := Lib.hid (Pow.below (w := w3.drew) P3.out b4); have q0 := pw_cell_below b4 (show w3.drew.cell? _ = _ from m0); have q1 := pw_cell_below b4 (show w3.drew.cell? _ = _ from m1); have V4 := Lib.hid (Pv.below (w := w3.drew) V3.out b4); have R4 := Lib.hid (Kd.R_below (w := w3.drew) R3.out b4); have B4 := Lib.hid (Below.trans (below_drew B3.out) (Below.mono b4 (by exact B3.out.size))); clear b4)
          | (go_at_call 62; refine (Q1.out _ (by exact P4.out)).mono ?_; rintro e w5 ⟨rfl, b5⟩; have s0 := pw_cell_below b5 (by exact q0); have s1 := pw_cell_below b5 (by exact q1); have V5 := Lib.hid (V4.out.below b5); have R5 := Lib.hid (Kd.R_below R4.out b5); have B5 := Lib.hid (Below.trans B4.out (Below.mono b5 B4.out.size)); clear b5))
      all_goals
        have BS := Lib.hid (show w.heap.size ≤ w5.heap.size from B5.out.size)
        have HL16 := Lib.hid (show (T.length + 1) * 16 ≤ 140737488355328 by have := HT.out.1; omega)
        obtain ⟨r0, r1, r2, f0, f1, f2⟩ := V5.out.cells
        clear m0 m1 m2 q0 q1 s0 s1 zz zc1 zc2 zd1 zd2 ze1 ze2
        cases hf : y.f2 with
        | true =>
          rw [hf] at r2 HW
          go_wp2_with ((with_reducible refine gate_builtin (b := .append) (xs := #[.tmp 25, .tmp 27]) rfl ?_); at_builtin; refine Kd.R_append Kd.string (w0 := w) w.heap.size rfl (.tmp 25) (.tmp 27) 81 9 (.string ⟨#[]⟩) 16 rfl Tryd.underlying81 info9 rfl (by decide) (by decide) (.slice B T.length d) T (p0 ++ (⟨#[47]⟩ : ByteArray) ++ p1 ++ (⟨#[103]⟩ : ByteArray)) [.string (p0 ++ (⟨#[47]⟩ : ByteArray) ++ p1 ++ (⟨#[103]⟩ : ByteArray))] (fun _ => True) (fun _ => False) rfl rfl rfl (fun _ hk => hk.elim) (fun _ _ => trivial) R5.out B5.out BS.out HL16.out ?_; intro v6 w6 ho hb6 hg6 hat; have HO := Lib.hid ho; have HB6 := Lib.hid hb6; clear ho hb6 hg6 hat)
          go_roundw
          case rel =>
            refine ⟨j + 1, T ++ [p0 ++ (⟨#[47]⟩ : ByteArray) ++ p1 ++ (⟨#[103]⟩ : ByteArray)], by push_cast; rfl, by omega, Lib.hid ⟨by rw [List.length_append, HT.out.1]; rfl, ?_⟩, HO, HB6⟩
            rw [List.map_append, HT.out.2, NT.out, HW.out]
            simp
          case measure => simp [intOf]; omega
        | false =>
          rw [hf] at r2 HW
          go_wp2_with ((with_reducible refine gate_builtin (b := .append) (xs := #[.tmp 25, .tmp 27]) rfl ?_); at_builtin; refine Kd.R_append Kd.string (w0 := w) w.heap.size rfl (.tmp 25) (.tmp 27) 81 9 (.string ⟨#[]⟩) 16 rfl Tryd.underlying81 info9 rfl (by decide) (by decide) (.slice B T.length d) T (p0 ++ (⟨#[47]⟩ : ByteArray) ++ p1) [.string (p0 ++ (⟨#[47]⟩ : ByteArray) ++ p1)] (fun _ => True) (fun _ => False) rfl rfl rfl (fun _ hk => hk.elim) (fun _ _ => trivial) R5.out B5.out BS.out HL16.out ?_; intro v6 w6 ho hb6 hg6 hat; have HO := Lib.hid ho; have HB6 := Lib.hid hb6; clear ho hb6 hg6 hat)
          go_roundw
          case rel =>
            refine ⟨j + 1, T ++ [p0 ++ (⟨#[47]⟩ : ByteArray) ++ p1], by push_cast; rfl, by omega, Lib.hid ⟨by rw [List.length_append, HT.out.1]; rfl, ?_⟩, HO, HB6⟩
            rw [List.map_append, HT.out.2, NT.out, HW.out]
            simp
          case measure => simp [intOf]; omega
    · have hje : j = n := by omega
      subst hje
      have hT : T.map (·.data.toList) = (l.map tk).map word := by rw [HT.out.2, ← HN.out, List.take_length]; rfl
      have HE := Lib.hid (show (⟨(Lib.join (T.map (·.data.toList)) ([32] : List UInt8)).toArray⟩ : ByteArray) = tx l by rw [hT]; rfl)
      have hz := tx_size l HX.out
      rw [HN.out] at hz
      have hln : (Lib.join (T.map (·.data.toList)) ([32] : List UInt8)).length ≤ 140737488355328 := by
        have h1 : (Lib.join (T.map (·.data.toList)) ([32] : List UInt8)).length = (tx l).size := by
          rw [← HE.out]
          show _ = (Lib.join (T.map (·.data.toList)) ([32] : List UInt8)).toArray.size
          simp
        omega
      rcases own_strs HR2.out with ⟨rfl, rfl⟩ | ⟨b, d, rfl, hd, hb, hcell⟩
      · have C1 := Lib.hid (Tryd.strings_Join_none none 0 ⟨#[32]⟩ wr)
        have HE2 := Lib.hid (show (⟨#[]⟩ : ByteArray) = tx l from HE.out)
        go_wp2_with fail
        refine C1.out.mono ?_
        rintro e w2 ⟨rfl, rfl⟩
        go_wp2_with fail
        go_ret
        rw [← HE2.out]
        exact ⟨rfl, HB.out⟩
      · have C1 := Lib.hid (Tryd.strings_Join b 0 d T ⟨#[32]⟩ wr hcell hb (by have := HT.out.1; omega) hd hln)
        clear hcell hd hb hT hz hln
        go_wp2_with fail
        refine C1.out.mono ?_
        rintro e w2 ⟨rfl, b2⟩
        have B2 := Lib.hid (HB.out.trans (b2.mono HB.out.size))
        clear b2 C1
        go_wp2_with fail
        go_ret
        refine ⟨?_, B2.out⟩
        rw [← HE.out]; rfl
end Go.Proofs.YtfofpammnfcmiaaDoor.E
