/- Marline, layer 41: what the laws try first; the law of parsing. Conditions: as each says. -/
import Derived.Test.YtfofpammnfcmiaaDoorSd
namespace Go.Proofs.YtfofpammnfcmiaaDoor.E
open Go.RowKit Go.Proofs.YtfofpammnfcmiaaDoorW.PrintWords Go.Proofs.YtfofpammnfcmiaaDoorW.PrintLast Go.Proofs.YtfofpammnfcmiaaDoorW.PrintMore Go.Proofs.YtfofpammnfcmiaaDoor.Kinds Go.Proofs.YtfofpammnfcmiaaDoor.Obj Go.Proofs.YtfofpammnfcmiaaDoor.Sp
set_option linter.unusedVariables false
set_option linter.unusedSimpArgs false

def x0 : S32 := ⟨0, 5, false⟩
def x1 : S32 := ⟨-3, 1, true⟩
abbrev lit : ByteArray := ⟨#[48, 47, 53, 32, 45, 51, 47, 49, 103]⟩
theorem dig_one (d : Nat) (h : d < 10) : Lib.itoa (d : Int) = [UInt8.ofNat (48 + d)] := by
  unfold Lib.itoa; rw [if_neg (by omega), Int.toNat_natCast, Lib.decDigits_one h]
theorem lit_words : textS [tk x0, tk x1] = lit.data.toList := by
  have h0 : Lib.itoa 0 = [48] := dig_one 0 (by decide)
  have h5 : Lib.itoa 5 = [53] := dig_one 5 (by decide)
  have h1 : Lib.itoa 1 = [49] := dig_one 1 (by decide)
  have h3 : Lib.itoa (-3) = [45, 51] := by
    unfold Lib.itoa; rw [if_pos (by decide)]; rw [show (-3 : Int).natAbs = 3 from rfl, Lib.decDigits_one (by decide)]; rfl
  unfold textS
  simp only [List.map_cons, List.map_nil]
  rw [join_two, Lib.join_one]
  unfold word tk x0 x1
  simp only
  rw [h0, h5, h1, h3]
  rfl
theorem oks : ∀ x ∈ [x0, x1], (tk x).ok := by
  intro x hx
  rcases List.mem_cons.1 hx with rfl | hx
  · exact ⟨by decide, by decide⟩
  · rw [List.mem_singleton.1 hx]; exact ⟨by decide, by decide⟩
theorem lit_parse : parseS lit.data.toList = some [tk x0, tk x1] := by
  rw [← lit_words]
  refine parse_text _ ?_
  intro p hp
  rcases List.mem_cons.1 hp with rfl | hp
  · exact ⟨by decide, by decide⟩
  · rw [List.mem_singleton.1 hp]; exact ⟨by decide, by decide⟩
theorem lit_tx : tx [x0, x1] = lit := bytes_ext (by rw [tx_data]; exact lit_words)
/-- two entries that are written out. -/
theorem two_C (W : World) (x y : S32) : Kd.C k32 (W.alloc (.cells #[.int .i64 x.f0, .int .i64 x.f1, .bool x.f2, .int .i64 y.f0, .int .i64 y.f1, .bool y.f2] 32)) (some ⟨W.heap.size, 0, none⟩) 2 [x, y] := by
  have hb := blk_new W (.cells #[.int .i64 x.f0, .int .i64 x.f1, .bool x.f2, .int .i64 y.f0, .int .i64 y.f1, .bool y.f2] 32)
  refine ⟨rfl, by decide, fun _ => ⟨_, rfl, ?_⟩⟩
  intro j p hj
  have hs : k32.sz = 3 := rfl
  match j, hj with
  | 0, hj =>
    injection hj with hj; subst hj
    refine ⟨_, rfl, k32_mk _ _, ?_⟩
    intro i u hi
    rw [hs, Addr.add_lit, blk_cell hb]
    match i, hi with
    | 0, hi => exact hi
    | 1, hi => exact hi
    | 2, hi => exact hi
    | i + 3, hi => cases hi
  | 1, hj =>
    injection hj with hj; subst hj
    refine ⟨_, rfl, k32_mk _ _, ?_⟩
    intro i u hi
    rw [hs, Addr.add_lit, blk_cell hb]
    match i, hi with
    | 0, hi => exact hi
    | 1, hi => exact hi
    | 2, hi => exact hi
    | i + 3, hi => cases hi
  | j + 2, hj => cases hj
theorem errP_some (l : List Pk) : errP (some l) = 0 := rfl
set_option maxHeartbeats 4000000 in
set_option maxRecDepth 100000 in
theorem works_calls (w : World) (h : Lw w) : Calls Tryd.prog 15 #[] w fun e w' => e = .returned (.bool true) ∧ Below w.heap.size w w' := by
  have hu32 := Tryd.underlying32
  have C1 := Lib.hid (parse_calls lit w (by decide) h)
  rw [lit_parse, errP_some] at C1
  have e1 : (Option.getD (some [tk x0, tk x1]) []).map mk = [x0, x1] := rfl
  rw [e1] at C1
  have HL := Lib.hid h
  clear h e1
  go_enter Tryd.func15, Tryd.ntmps15
  go_wp2_with fail
  refine C1.out.mono ?_
  rintro e w1 ⟨v, rfl, r1, b1⟩
  obtain ⟨A, c, rfl⟩ := Kd.R_slice r1
  obtain ⟨_, hc, hC⟩ := Kd.R_reads' r1
  have H2 := two_C w1 x0 x1
  have CC := Lib.hid (Kd.C_below hC (below_alloc (Below.refl _ _) (.cells #[.int .i64 0, .int .i64 5, .bool false, .int .i64 (-3), .int .i64 1, .bool true] 32)))
  have H2 := Lib.hid (show Kd.C k32 (w1.alloc (.cells #[.int .i64 0, .int .i64 5, .bool false, .int .i64 (-3), .int .i64 1, .bool true] 32)) (some ⟨w1.heap.size, 0, none⟩) 2 [x0, x1] from two_C w1 x0 x1)
  have B1 := Lib.hid b1
  have HC := Lib.hid hc
  clear r1 hc hC C1 b1
  go_wp2_with fail
  refine (same_calls A (some ⟨w1.heap.size, 0, none⟩) c 2 [x0, x1] [x0, x1] _ CC.out HC.out H2.out (by decide) (by decide)).mono ?_
  rintro e w2 ⟨rfl, hd⟩
  have B2 := Lib.hid (B1.out.trans (Below.mono (below_alloc (Below.refl w1.heap.size w1) (.cells #[.int .i64 0, .int .i64 5, .bool false, .int .i64 (-3), .int .i64 1, .bool true] 32)) B1.out.size))
  have B3 := Lib.hid (B2.out.trans (Below.mono hd.below B2.out.size))
  have C2 := Lib.hid (Kd.C_below CC.out hd.below)
  clear hd
  have hdec : decide ([x0, x1] = [x0, x1]) = true := decide_eq_true rfl
  rw [hdec]
  clear hdec
  go_wp2_with fail
  refine (text41_calls A c [x0, x1] w2 C2.out HC.out oks (by decide) (HL.out.below B3.out)).mono ?_
  rw [lit_tx]
  rintro e w3 ⟨rfl, b3⟩
  have B4 := Lib.hid (B3.out.trans (b3.mono B3.out.size))
  clear b3
  go_wp2_with fail
  go_ret
  exact ⟨rfl, B4.out⟩
set_option maxHeartbeats 4000000 in
set_option maxRecDepth 100000 in
theorem parses_walk (s : ByteArray) (w : World) (hs : s.size ≤ 9000000000000000) (h : Lw w) : Calls Tryd.prog 3 #[.string s] w fun e w' => e = .returned (.bool true) ∧ Below w.heap.size w w' := by
  have W1 := Lib.hid (works_calls w h)
  have HL := Lib.hid h
  by_cases hl : s.size ≤ 300
  · have hl2 : decide ((300 : Int) < (s.size : Int)) = false := decide_eq_false (by omega)
    obtain ⟨o, ho⟩ : ∃ o, parseS s.data.toList = o := ⟨_, rfl⟩
    have C1 := Lib.hid (fun w h => parse_calls s w (by omega) h)
    rw [ho] at C1
    have HO := Lib.hid ho
    have HS := Lib.hid hl
    clear h hl ho hs
    go_enter Tryd.func3, Tryd.ntmps3
    go_wp2_with fail
    refine W1.out.mono ?_
    rintro e w1 ⟨rfl, b1⟩
    have B1 := Lib.hid b1
    clear b1 W1
    go_wp2_with fail
    refine (C1.out w1 (HL.out.below B1.out)).mono ?_
    rintro e w2 ⟨v, rfl, r2, b2⟩
    have B2 := Lib.hid (B1.out.trans (b2.mono B1.out.size))
    clear b2 C1
    cases o with
    | none =>
      obtain ⟨A, c, rfl⟩ := Kd.R_slice r2
      clear r2
      have e0 : errP none = 1 := rfl
      have e1 : ((Option.getD (none : Option (List Pk)) []).map mk).length = 0 := rfl
      rw [e0, e1]
      clear e0 e1
      go_wp2_with fail
      go_ret
      exact ⟨rfl, B2.out⟩
    | some l =>
      obtain ⟨hT, hok⟩ := text_parse _ _ HO.out
      obtain ⟨L, hL⟩ : ∃ L, l.map mk = L := ⟨_, rfl⟩
      have e2 : (Option.getD (some l) []).map mk = L := hL
      rw [e2] at r2
      obtain ⟨A, c, rfl⟩ := Kd.R_slice r2
      obtain ⟨_, hc, hC⟩ := Kd.R_reads' r2
      have hLt : L.map tk = l := by
        rw [← hL, List.map_map]
        exact (List.map_congr_left (fun p _ => rfl)).trans (List.map_id l)
      have htx : tx L = s := bytes_ext (by rw [tx_data, hLt]; exact hT)
      have hokL : ∀ x ∈ L, (tk x).ok := by
        intro x hx
        exact hok _ (by rw [← hLt]; exact List.mem_map.2 ⟨x, hx, rfl⟩)
      have hlen : L.length ≤ 1000 := by
        have h1 : l.length ≤ s.data.toList.length + 1 := by
          rw [← hT]
          have : ∀ q : List Pk, q.length ≤ (textS q).length + 1 := by
            intro q
            cases q with
            | nil => simp
            | cons p q =>
              unfold textS
              rw [List.map_cons, Lib.join_length]
              simp only [List.length_cons, List.length_map, List.length_nil]
              omega
          exact this l
        have h2 : s.data.toList.length = s.size := rfl
        have h3 := HS.out
        rw [← hL, List.length_map]
        omega
      have C2 := Lib.hid (refText41_calls A c L w2 hC hc hokL hlen)
      rw [htx] at C2
      rw [errP_some]
      clear hT hok hL e2 r2 hc hC hLt htx hokL hlen
      go_wp2_with fail
      refine C2.out.mono ?_
      rintro e w3 ⟨rfl, hd⟩
      have B3 := Lib.hid (B2.out.trans (Below.mono hd.below B2.out.size))
      clear hd C2
      go_wp2_with fail
      go_ret
      exact ⟨rfl, B3.out⟩
  · have hl2 : decide ((300 : Int) < (s.size : Int)) = true := decide_eq_true (by omega)
    clear h hl
    go_enter Tryd.func3, Tryd.ntmps3
    go_wp2_with fail
    refine W1.out.mono ?_
    rintro e w1 ⟨rfl, b1⟩
    have B1 := Lib.hid b1
    clear b1 W1
    go_wp2_with fail
    refine (works_calls w1 (HL.out.below B1.out)).mono ?_
    rintro e w2 ⟨rfl, b2⟩
    have B2 := Lib.hid (B1.out.trans (b2.mono B1.out.size))
    clear b2
    go_wp2_with fail
    go_ret
    exact ⟨rfl, B2.out⟩
end Go.Proofs.YtfofpammnfcmiaaDoor.E
