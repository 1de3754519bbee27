/- Marline, layer 26: an instruction's text by the document. Conditions: as each says. -/
import Derived.Test.YtfofpammnfcmiaaDoorIc
namespace Go.Proofs.YtfofpammnfcmiaaDoor.Ip
open Go.RowKit Go.Proofs.YtfofpammnfcmiaaDoorW.PrintWords Go.Proofs.YtfofpammnfcmiaaDoorW.PrintLast Go.Proofs.YtfofpammnfcmiaaDoorW.PrintMore Go.Proofs.YtfofpammnfcmiaaDoor.Kinds Go.Proofs.YtfofpammnfcmiaaDoor.Obj Go.Proofs.YtfofpammnfcmiaaDoor.Sp Go.Proofs.YtfofpammnfcmiaaDoor.E
set_option linter.unusedVariables false
set_option linter.unusedSimpArgs false
set_option maxRecDepth 100000
theorem one_own (w : World) (base : Nat) (hb : base ≤ w.heap.size) (s : ByteArray) : Kd.R Kd.string 9 (w.alloc (.cells #[.string s] 9)) base (fun _ => True) (.slice (some ⟨w.heap.size, 0, none⟩) 1 1) [s] := by
  have hs : Kd.string.sz = 1 := rfl
  refine ⟨fun _ _ => trivial, [.string s], ⟨rfl, .inr ⟨w.heap.size, 1, #[.string s], rfl, hb, blk_new w _, ?_⟩⟩, ?_⟩
  · refine ⟨Nat.le_refl _, by decide, rfl, rfl⟩
  · exact (Reps.none _ _).snoc (p := s) (c := [.string s]) rfl rfl
theorem cut_k (k : Nat) (hk : k ≤ 2) (g : Nat) (W : World) : (Instr.sliceAt 35 (.slice (some ⟨g, 0, none⟩) 2 2) none (some (.int .i64 (k : Int))) none).run Tryd.prog W = .ok (.slice (some ⟨g, 0, none⟩) k 2) W := by
  have h : k = 0 ∨ k = 1 ∨ k = 2 := by omega
  rcases h with rfl | rfl | rfl <;> rfl
/-- what is needed: the tables, and the ops. -/
structure Li (w : World) : Prop where
  l : Lw w
  o : Ops w
theorem Li.below {w w' : World} (h : Li w) (hb : Below w.heap.size w w') : Li w' := ⟨h.l.below hb, h.o.below hb⟩
/-- two numbers in a block. -/
def L2 (w : World) (g : Nat) (a b : Int) : Prop := w.heap[g]? = some (.cells #[.int .i64 a, .int .i64 b] 3 (0, 0))
theorem L2.cell {w : World} {g : Nat} {a b : Int} (h : L2 w g a b) (j k : Nat) (hj : j < k) (hk : k ≤ 2) : w.cell? ⟨g, j, none⟩ = some (.int .i64 (([a, b].take k).getD j 0)) := by
  have h2 : j = 0 ∨ j = 1 := by omega
  have h3 : k = 1 ∨ k = 2 := by omega
  rcases h2 with rfl | rfl
  · rcases h3 with rfl | rfl <;> exact (blk_cell h 0).trans rfl
  · rcases h3 with rfl | rfl
    · omega
    · exact (blk_cell h 1).trans rfl
theorem L2.lt {w : World} {g : Nat} {a b : Int} (h : L2 w g a b) : g < w.heap.size := blk_lt h
theorem own_ne {v v1 : Value} {W : World} {gl : Nat} (hat : v1.ownBlock = v.ownBlock ∨ ∃ b, v1.ownBlock = some b ∧ W.heap.size ≤ b) (h : v.ownBlock ≠ some gl) (hl : gl < W.heap.size) : v1.ownBlock ≠ some gl := by
  rcases hat with hh | ⟨b, hh, h2⟩
  · rw [hh]; exact h
  · rw [hh]; intro h3; injection h3 with h3; omega
theorem in_take {a b x : Int} {j k : Nat} (ha : In a) (hb : In b) (hj : j < k) (hk : k ≤ 2) (hx : ([a, b].take k).getD j 0 = x) : In x := by
  have h2 : j = 0 ∨ j = 1 := by omega
  have h3 : k = 1 ∨ k = 2 := by omega
  rcases h2 with rfl | rfl <;> rcases h3 with rfl | rfl <;> (subst hx; first | exact ha | exact hb | omega)
theorem take_next {a b x : Int} {j k : Nat} (hj : j < k) (hk : k ≤ 2) (hx : ([a, b].take k).getD j 0 = x) : (([a, b].take k).take (j + 1)).map Lib.itoa = (([a, b].take k).take j).map Lib.itoa ++ [Lib.itoa x] := by
  have h2 : j = 0 ∨ j = 1 := by omega
  have h3 : k = 1 ∨ k = 2 := by omega
  rcases h2 with rfl | rfl <;> rcases h3 with rfl | rfl <;> (subst hx; first | rfl | omega)
theorem nm_len : ∀ n : Fin 34, (nm n.val).length ≤ 10 := by decide +kernel
theorem textS_len (op a b : Int) (ha : In a) (hb : In b) : (textS op a b).length ≤ 60 := by
  have h1 := itoa_len a ha
  have h2 := itoa_len b hb
  have h3 : (nameI op).length ≤ 10 := by
    unfold nameI; split
    · simp
    · exact nm_len ⟨op.toNat, by omega⟩
  have hk := args_le op
  unfold textS partsS
  have h4 : argsI op = 0 ∨ argsI op = 1 ∨ argsI op = 2 := by omega
  rcases h4 with h4 | h4 | h4 <;> rw [h4] <;> simp [Lib.join] <;> omega
def textI (op a b : Int) : ByteArray := if rightS op a b = true then ⟨(textS op a b).toArray⟩ else ⟨#[]⟩
set_option maxHeartbeats 8000000 in
theorem itext_calls (op a b d : Int) (w : World) (ha : In a) (hb : In b) (h : Li w) : Calls Tryd.prog 34 #[insV op a b d] w fun e w' => e = .returned (.string (textI op a b)) ∧ Below w.heap.size w w' := by
  unfold insV
  have hu48 := Tryd.underlying48
  obtain ⟨g, hg⟩ : ∃ g, w.heap.size = g := ⟨_, rfl⟩
  have G : Hid (∃ w1 : World, w.alloc (.cells #[.int .i64 op, .int .i64 a, .int .i64 b, .int .i64 d] 48) = w1 ∧ Q4 w1 g 48 (.int .i64 op) (.int .i64 a) (.int .i64 b) (.int .i64 d) ∧ Below w.heap.size w w1) :=
    Lib.hid ⟨_, rfl, by rw [← hg]; exact blk_new _ _, below_alloc (Below.refl _ _) _⟩
  have E1 := Lib.hid hg; have HL := Lib.hid h; have HA := Lib.hid ha; have HB := Lib.hid hb
  obtain ⟨r, hr⟩ : ∃ r, rightS op a b = r := ⟨_, rfl⟩
  have HR := Lib.hid hr
  clear hg h ha hb hr
  go_enter Tryd.func34, Tryd.ntmps34
  go_upto_region 1 with (fail)
  rw [E1.out]
  obtain ⟨w1, hw1, v1, b1⟩ := G.out
  rw [hw1]
  have V1 := Lib.hid v1; have B1 := Lib.hid b1
  obtain ⟨m0, m1, m2, m3, t0, t1, t2, t3⟩ := v1.cells
  clear v1 b1 hw1
  go_wp2_with fail
  refine (right_calls op a b d w1 (HL.out.below B1.out).o).mono ?_
  rintro e w2 ⟨rfl, b2⟩
  rw [HR.out]
  have V2 := Lib.hid (V1.out.below b2); have B2 := Lib.hid (B1.out.trans (b2.mono B1.out.size))
  obtain ⟨m0, m1, m2, m3, t0, t1, t2, t3⟩ := V2.out.cells
  clear b2 V1 B1
  cases r with
  | false =>
    go_wp2_with fail
    go_ret
    refine ⟨?_, B2.out⟩
    unfold textI; rw [HR.out]; rfl
  | true =>
    obtain ⟨m, rfl, hm0, hm1⟩ := right_name HR.out
    have HM := Lib.hid hm1
    clear hm0 hm1
    go_wp2_with fail
    refine (name_calls m w2 (HL.out.below B2.out).o).mono ?_
    rintro e w3 ⟨rfl, b3⟩
    have V3 := Lib.hid (V2.out.below b3); have B3 := Lib.hid (B2.out.trans (b3.mono B2.out.size))
    obtain ⟨m0, m1, m2, m3, t0, t1, t2, t3⟩ := V3.out.cells
    clear b3 V2 B2
    go_upto_region 4 with (fail)
    obtain ⟨gp, hgp⟩ : ∃ gp, w3.heap.size = gp := ⟨_, rfl⟩
    obtain ⟨k, hk⟩ : ∃ k, argsI (m : Int) = k := ⟨_, rfl⟩
    have hk2 : k ≤ 2 := by rw [← hk]; exact args_le _
    have G4 : ∃ w4 : World, w3.alloc (.cells #[.string ⟨(nameI (m : Int)).toArray⟩] 9) = w4 ∧ Q4 w4 g 48 (.int .i64 (m : Int)) (.int .i64 a) (.int .i64 b) (.int .i64 d) ∧ Below w.heap.size w w4 ∧ Kd.R Kd.string 9 w4 w.heap.size (fun _ => True) (.slice (some ⟨gp, 0, none⟩) 1 1) [⟨(nameI (m : Int)).toArray⟩] :=
      ⟨_, rfl, V3.out.alloc _, below_alloc B3.out _, by rw [← hgp]; exact one_own w3 _ B3.out.size _⟩
    rw [hgp]
    obtain ⟨w4, hw4, v4, b4, r4⟩ := G4
    rw [hw4]
    have GP0 : gp < w4.heap.size := by
      have : w4.heap.size = w3.heap.size + 1 := by rw [← hw4]; simp [World.alloc, -World.alloc_eq]
      omega
    have V4 := Lib.hid v4; have B4 := Lib.hid b4; have R4 := Lib.hid r4; have HK := Lib.hid hk
    obtain ⟨m0, m1, m2, m3, t0, t1, t2, t3⟩ := v4.cells
    have CK := fun g W => cut_k k hk2 g W
    have HK2 := Lib.hid hk2
    have GP := Lib.hid (show gp < w4.heap.size from GP0)
    clear v4 b4 r4 hw4 hgp V3 B3 hk hk2 GP0
    go_region_held3 (fun w' => w'.cell? ⟨g, 0, none⟩ = some (.int .i64 (m : Int)) ∧ w'.cell? ⟨g, 1, none⟩ = some (.int .i64 a) ∧ w'.cell? ⟨g, 2, none⟩ = some (.int .i64 b)) (first | exact ⟨m0, m1, m2⟩ | exact ⟨pw_cell_below (below_alloc (Below.refl w4.heap.size w4) _) m0, pw_cell_below (below_alloc (Below.refl w4.heap.size w4) _) m1, pw_cell_below (below_alloc (Below.refl w4.heap.size w4) _) m2⟩ | exact ⟨q0, q1, q2⟩ | exact ⟨pw_cell_below (below_alloc (Below.refl w5.heap.size w5) _) q0, pw_cell_below (below_alloc (Below.refl w5.heap.size w5) _) q1, pw_cell_below (below_alloc (Below.refl w5.heap.size w5) _) q2⟩)
      (first
        | (go_at_call 30; refine (args_calls (m : Int) w4.drew (Ops.below (w := w4) (HL.out.below B4.out).o (below_drew1 (Below.refl _ _)))).mono ?_; rintro e w5 ⟨rfl, b5⟩; rw [HK.out]; have q0 := pw_cell_below b5 (show w4.drew.cell? _ = _ from m0); have q1 := pw_cell_below b5 (show w4.drew.cell? _ = _ from m1); have q2 := pw_cell_below b5 (show w4.drew.cell? _ = _ from m2); have S5 := Lib.hid (show w4.heap.size ≤ w5.heap.size from b5.size); have R5 := Lib.hid (Kd.R_below (w := w4.drew) R4.out b5); have B5 := Lib.hid (Below.trans (below_drew B4.out) (Below.mono b5 (by exact B4.out.size))); clear b5)
        | (go_at_call 30; refine (args_calls (m : Int) (w4.alloc (Obj.cells #[Value.int IntKind.i64 a, Value.int IntKind.i64 b] 3)).drew (Ops.below (w := w4) (HL.out.below B4.out).o (below_drew1 (below_alloc (Below.refl _ _) _)))).mono ?_; rintro e w5 ⟨rfl, b5⟩; rw [HK.out]; have q0 := pw_cell_below b5 (show (w4.alloc (Obj.cells #[Value.int IntKind.i64 a, Value.int IntKind.i64 b] 3)).drew.cell? _ = _ from (pw_cell_below (below_alloc (Below.refl w4.heap.size w4) _) m0)); have q1 := pw_cell_below b5 (show (w4.alloc (Obj.cells #[Value.int IntKind.i64 a, Value.int IntKind.i64 b] 3)).drew.cell? _ = _ from (pw_cell_below (below_alloc (Below.refl w4.heap.size w4) _) m1)); have q2 := pw_cell_below b5 (show (w4.alloc (Obj.cells #[Value.int IntKind.i64 a, Value.int IntKind.i64 b] 3)).drew.cell? _ = _ from (pw_cell_below (below_alloc (Below.refl w4.heap.size w4) _) m2)); have L0 := Lib.hid (show L2 w5 w4.heap.size a b from blk_below (w := (w4.alloc (Obj.cells #[Value.int IntKind.i64 a, Value.int IntKind.i64 b] 3)).drew) (blk_new w4 _) b5); have R5 := Lib.hid (Kd.R_below (w := (w4.alloc (Obj.cells #[Value.int IntKind.i64 a, Value.int IntKind.i64 b] 3)).drew) (Kd.R_drew (Kd.R_alloc R4.out _)) b5); have B5 := Lib.hid (Below.trans (below_drew1 (below_alloc B4.out _)) (Below.mono b5 (by have := B4.out.size; simp; omega))); clear b5))
    all_goals
      first
        | (have X0 := L0
           have NG : ∃ (w6 : World) (gl : Nat), w6 = w5 ∧ w4.heap.size = gl ∧ Hid (L2 w6 gl a b) ∧ Hid (gp < gl) ∧ Hid (Kd.R Kd.string 9 w6 w.heap.size (fun _ => True) (.slice (some ⟨gp, 0, none⟩) 1 1) [⟨(nameI (m : Int)).toArray⟩]) ∧ Hid (Below w.heap.size w w6) := ⟨w5, _, rfl, rfl, X0, GP, R5, B5⟩
           clear X0 L0)
        | (have NG : ∃ (w6 : World) (gl : Nat), w6 = (w5.alloc (Obj.cells #[Value.int IntKind.i64 a, Value.int IntKind.i64 b] 3)) ∧ w5.heap.size = gl ∧ Hid (L2 w6 gl a b) ∧ Hid (gp < gl) ∧ Hid (Kd.R Kd.string 9 w6 w.heap.size (fun _ => True) (.slice (some ⟨gp, 0, none⟩) 1 1) [⟨(nameI (m : Int)).toArray⟩]) ∧ Hid (Below w.heap.size w w6) := ⟨_, _, rfl, rfl, Lib.hid (blk_new w5 _), Lib.hid (by have := GP.out; have := S5.out; omega), Lib.hid (Kd.R_alloc R5.out _), Lib.hid (below_alloc B5.out _)⟩)
      obtain ⟨w6, gl, hw6, hgl, L6, G6, R6, B6⟩ := NG
      rw [← hw6, hgl]
      clear hw6 hgl m0 m1 m2 m3 t0 t1 t2 t3 q0 q1 q2 R5 B5 R4 B4 V4
      go_wp2_with fail
      go_loopw [3, 23] (fun o i w' => ∃ (j : Nat) (T : List ByteArray), i = .int .i64 j ∧ j ≤ k ∧ Hid (T.length = j + 1 ∧ T.map (·.data.toList) = nameI (m : Int) :: (([a, b].take k).take j).map Lib.itoa) ∧ Hid (Kd.R Kd.string 9 w' w.heap.size (fun _ => True) o T) ∧ Hid (Below w.heap.size w w') ∧ Hid (o.ownBlock ≠ some gl) ∧ Hid (L2 w' gl a b)) (fun o i _ => k - (intOf i).toNat)
      case atStart => exact ⟨0, _, rfl, Nat.zero_le _, Lib.hid ⟨rfl, rfl⟩, R6, B6, Lib.hid (by have := G6.out; simp [Value.ownBlock]; omega), L6⟩
      case round =>
        obtain ⟨j, T, rfl, hj, HT, HRj, HBj, HO, HLj⟩ := hrel
        by_cases hlt : j < k
        · obtain ⟨B, dd, rfl⟩ := Kd.R_slice HRj.out
          have hc := HLj.out.cell j k hlt HK2.out
          obtain ⟨x, hx⟩ : ∃ x, ([a, b].take k).getD j 0 = x := ⟨_, rfl⟩
          rw [hx] at hc
          have INX := Lib.hid (show In x from in_take HA.out HB.out hlt HK2.out hx)
          have NT := Lib.hid (show (([a, b].take k).take (j + 1)).map Lib.itoa = (([a, b].take k).take j).map Lib.itoa ++ [Lib.itoa x] from take_next hlt HK2.out hx)
          have Q := Lib.hid (text_calls x wr INX.out (HL.out.below HBj.out).l.p)
          have i0 : (0 : Int) ≤ (j : Int) := by omega
          have i1 : (j : Int) < (k : Int) := by omega
          have HWJ := Lib.hid (show wrap64 ((j : Int) + 1) = ((j + 1 : Nat) : Int) by have := HK2.out; unfold wrap64; omega)
          have HL16 := Lib.hid (show (T.length + 1) * 16 ≤ 140737488355328 by have := HT.out.1; have := HK2.out; omega)
          obtain ⟨p0, hp0⟩ : ∃ p, (⟨(Lib.itoa x).toArray⟩ : ByteArray) = p := ⟨_, rfl⟩
          have HP0 := Lib.hid (show Lib.itoa x = p0.data.toList by rw [← hp0])
          rw [hp0] at Q
          clear hx hp0
          go_wp2_with fail
          refine Q.out.mono ?_
          rintro e w7 ⟨rfl, b7⟩
          have R7 := Lib.hid (Kd.R_below HRj.out b7)
          have B7 := Lib.hid (HBj.out.trans (b7.mono HBj.out.size))
          have L7 := Lib.hid (show L2 w7 gl a b from blk_below HLj.out b7)
          have BS := Lib.hid (show w.heap.size ≤ w7.heap.size from B7.out.size)
          clear b7 Q HRj HBj HLj hc
          go_wp2_with ((with_reducible refine gate_builtin (b := .append) (xs := #[.tmp 27, .tmp 30]) rfl ?_); at_builtin; refine Kd.R_append Kd.string (w0 := w) w.heap.size rfl (.tmp 27) (.tmp 30) 81 9 (.string ⟨#[]⟩) 16 rfl Tryd.underlying81 info9 rfl (by decide) (by decide) (.slice B T.length dd) T p0 [.string p0] (fun _ => True) (fun _ => False) rfl rfl rfl (fun _ hk => hk.elim) (fun _ _ => trivial) R7.out B7.out BS.out HL16.out ?_; intro v8 w8 ho hb8 hg8 hat; have R8 := Lib.hid ho; have B8 := Lib.hid hb8; have L8 := Lib.hid (show L2 w8 gl a b from blk_grown L7.out hg8 (Ne.symm HO.out)); have O8 := Lib.hid (show v8.ownBlock ≠ some gl from own_ne hat HO.out L7.out.lt); clear ho hb8 hg8 hat)
          go_roundw
          case rel => exact ⟨j + 1, T ++ [p0], by rw [HWJ.out], by omega, Lib.hid ⟨by rw [List.length_append, HT.out.1]; rfl, by rw [List.map_append, HT.out.2, NT.out, ← List.cons_append, HP0.out]; rfl⟩, R8, B8, O8, L8⟩
          case measure => rw [HWJ.out]; simp [intOf]; omega
        · have hje : j = k := by omega
          subst hje
          have hT : T.map (·.data.toList) = partsS (m : Int) a b := by rw [HT.out.2, List.take_take, Nat.min_self]; unfold partsS; rw [HK.out]
          have HE := Lib.hid (show (⟨(Lib.join (T.map (·.data.toList)) ([32] : List UInt8)).toArray⟩ : ByteArray) = textI (m : Int) a b by rw [hT]; unfold textI; rw [if_pos HR.out]; rfl)
          have hln : (Lib.join (T.map (·.data.toList)) ([32] : List UInt8)).length ≤ 140737488355328 := by
            rw [hT]
            have := textS_len (m : Int) a b HA.out HB.out
            unfold textS at this; omega
          rcases own_strs HRj.out with ⟨_, rfl⟩ | ⟨bk, dd, rfl, hd, hbk, hcell⟩
          · have := HT.out.1; simp at this
          · have C1 := Lib.hid (Tryd.strings_Join bk 0 dd T ⟨#[32]⟩ wr hcell hbk (by have := HT.out.1; have := HK2.out; omega) hd hln)
            clear hcell hd hbk hT hln
            go_wp2_with fail
            refine C1.out.mono ?_
            rintro e w7 ⟨rfl, b7⟩
            have B7 := Lib.hid (HBj.out.trans (b7.mono HBj.out.size))
            clear b7 C1
            go_wp2_with fail
            go_ret
            refine ⟨?_, B7.out⟩
            rw [← HE.out]; rfl
end Go.Proofs.YtfofpammnfcmiaaDoor.Ip
namespace Go.Proofs.YtfofpammnfcmiaaDoor.Ip
open Go.RowKit Go.Proofs.YtfofpammnfcmiaaDoorW.PrintWords Go.Proofs.YtfofpammnfcmiaaDoorW.PrintLast Go.Proofs.YtfofpammnfcmiaaDoorW.PrintMore Go.Proofs.YtfofpammnfcmiaaDoor.Kinds Go.Proofs.YtfofpammnfcmiaaDoor.Obj Go.Proofs.YtfofpammnfcmiaaDoor.Sp Go.Proofs.YtfofpammnfcmiaaDoor.E
set_option linter.unusedVariables false
set_option linter.unusedSimpArgs false
set_option maxRecDepth 100000
theorem sz_of (l : List UInt8) (s : ByteArray) (h : (⟨l.toArray⟩ : ByteArray) = s) : s.size = l.length := by rw [← h]; show l.toArray.size = _; simp
theorem nameI_len (op : Int) : (nameI op).length ≤ 10 := by
  unfold nameI; split
  · simp
  · exact nm_len ⟨op.toNat, by omega⟩
def txt3 (s p q : List UInt8) : Nat → List UInt8
  | 0 => s
  | 1 => s ++ 32 :: p
  | _ => s ++ 32 :: p ++ 32 :: q
set_option maxHeartbeats 4000000 in
theorem refText26_calls (op a b d : Int) (w : World) (ha : In a) (hb : In b) : Calls Tryd.prog 37 #[insV op a b d] w fun e w' => e = .returned (.string ⟨(textS op a b).toArray⟩) ∧ Below w.heap.size w w' := by
  unfold insV
  have hu48 := Tryd.underlying48
  obtain ⟨g, hg⟩ : ∃ g, w.heap.size = g := ⟨_, rfl⟩
  have G : Hid (∃ w1 : World, w.alloc (.cells #[.int .i64 op, .int .i64 a, .int .i64 b, .int .i64 d] 48) = w1 ∧ Q4 w1 g 48 (.int .i64 op) (.int .i64 a) (.int .i64 b) (.int .i64 d) ∧ Below w.heap.size w w1) :=
    Lib.hid ⟨_, rfl, by rw [← hg]; exact blk_new _ _, below_alloc (Below.refl _ _) _⟩
  have E1 := Lib.hid hg; have HA := Lib.hid ha; have HB := Lib.hid hb
  obtain ⟨s, hs⟩ : ∃ s : ByteArray, (⟨(nameI op).toArray⟩ : ByteArray) = s := ⟨_, rfl⟩
  obtain ⟨p, hp⟩ : ∃ s : ByteArray, (⟨(Lib.itoa a).toArray⟩ : ByteArray) = s := ⟨_, rfl⟩
  obtain ⟨q, hq⟩ : ∃ s : ByteArray, (⟨(Lib.itoa b).toArray⟩ : ByteArray) = s := ⟨_, rfl⟩
  obtain ⟨k, hk⟩ : ∃ k, argsI op = k := ⟨_, rfl⟩
  have hk2 : k ≤ 2 := by rw [← hk]; exact args_le _
  have zs : s.size ≤ 10 := by rw [sz_of _ _ hs]; exact nameI_len op
  have zp : p.size ≤ 20 := by rw [sz_of _ _ hp]; exact itoa_len a ha
  have zq : q.size ≤ 20 := by rw [sz_of _ _ hq]; exact itoa_len b hb
  have HS := Lib.hid hs; have HP := Lib.hid hp; have HQ := Lib.hid hq; have HK := Lib.hid hk
  have C1 := Lib.hid (fun w => refName_calls op w)
  have C2 := Lib.hid (fun w => refArgs_calls op w)
  have C3 := Lib.hid (fun w => refText_calls a w ha)
  have C4 := Lib.hid (fun w => refText_calls b w hb)
  rw [hs] at C1; rw [hk] at C2; rw [hp] at C3; rw [hq] at C4
  have hT : textS op a b = txt3 s.data.toList p.data.toList q.data.toList k := by
    rw [← hs, ← hp, ← hq]
    unfold textS partsS
    rw [hk]
    have h4 : k = 0 ∨ k = 1 ∨ k = 2 := by omega
    rcases h4 with rfl | rfl | rfl <;> simp [Lib.join, txt3]
  rw [hT]
  clear hg ha hb hs hp hq hk hT
  have h4 : k = 0 ∨ k = 1 ∨ k = 2 := by omega
  clear hk2
  have y1 : (s ++ (⟨#[32]⟩ : ByteArray)).size = s.size + 1 := by rw [ByteArray.size_append]; rfl
  have y2 : (s ++ (⟨#[32]⟩ : ByteArray) ++ p).size = s.size + 1 + p.size := by rw [ByteArray.size_append, y1]
  have y3 : (s ++ (⟨#[32]⟩ : ByteArray) ++ p ++ (⟨#[32]⟩ : ByteArray)).size = s.size + 1 + p.size + 1 := by rw [ByteArray.size_append, y2]; rfl
  have z1 := eq_true (show s.size + 1 ≤ 9223372036854775807 by omega)
  have z1n : (9223372036854775807 < s.size + 1) = False := eq_false (by omega)
  have z2 := eq_true (show s.size + 1 + p.size ≤ 9223372036854775807 by omega)
  have z2n : (9223372036854775807 < s.size + 1 + p.size) = False := eq_false (by omega)
  have z3 := eq_true (show s.size + 1 + p.size + 1 ≤ 9223372036854775807 by omega)
  have z3n : (9223372036854775807 < s.size + 1 + p.size + 1) = False := eq_false (by omega)
  have z4 := eq_true (show s.size + 1 + p.size + 1 + q.size ≤ 9223372036854775807 by omega)
  have z4n : (9223372036854775807 < s.size + 1 + p.size + 1 + q.size) = False := eq_false (by omega)
  clear zs zp zq
  rcases h4 with rfl | rfl | rfl
  all_goals
    go_enter Tryd.func37, Tryd.ntmps37
    go_upto_region 1 with (fail)
    rw [E1.out]
    obtain ⟨w1, hw1, v1, b1⟩ := G.out
    rw [hw1]
    have V1 := Lib.hid v1; have B1 := Lib.hid b1
    obtain ⟨m0, m1, m2, m3, t0, t1, t2, t3⟩ := v1.cells
    clear v1 b1 hw1
    go_wp2_with fail
    refine (C1.out w1).mono ?_
    rintro e w2 ⟨rfl, b2⟩
    have V2 := Lib.hid (V1.out.below b2); have B2 := Lib.hid (B1.out.trans (b2.mono B1.out.size))
    obtain ⟨m0, m1, m2, m3, t0, t1, t2, t3⟩ := V2.out.cells
    clear b2 V1 B1
    go_wp2_with fail
    refine (C2.out w2).mono ?_
    rintro e w3 ⟨rfl, b3⟩
    have V3 := Lib.hid (V2.out.below b3); have B3 := Lib.hid (B2.out.trans (b3.mono B2.out.size))
    obtain ⟨m0, m1, m2, m3, t0, t1, t2, t3⟩ := V3.out.cells
    clear b3 V2 B2
    go_wp2_with fail
  · refine (C2.out w3).mono ?_
    rintro e w4 ⟨rfl, b4⟩
    have B4 := Lib.hid (B3.out.trans (b4.mono B3.out.size))
    clear b4 V3 B3
    go_wp2_with fail
    go_ret
    refine ⟨?_, B4.out⟩
    rfl
  all_goals
    refine (C3.out w3).mono ?_
    rintro e w4 ⟨rfl, b4⟩
    have V4 := Lib.hid (V3.out.below b4); have B4 := Lib.hid (B3.out.trans (b4.mono B3.out.size))
    obtain ⟨m0, m1, m2, m3, t0, t1, t2, t3⟩ := V4.out.cells
    clear b4 V3 B3
    go_wp2_with fail
    refine (C2.out w4).mono ?_
    rintro e w5 ⟨rfl, b5⟩
    have V5 := Lib.hid (V4.out.below b5); have B5 := Lib.hid (B4.out.trans (b5.mono B4.out.size))
    obtain ⟨m0, m1, m2, m3, t0, t1, t2, t3⟩ := V5.out.cells
    clear b5 V4 B4
    go_wp2_with fail
  · go_ret
    refine ⟨?_, B5.out⟩
    show Ending.returned (.string (s ++ (⟨#[32]⟩ : ByteArray) ++ p)) = _
    rw [bytes_ext (a := s ++ (⟨#[32]⟩ : ByteArray) ++ p) (b := ⟨(txt3 s.data.toList p.data.toList q.data.toList 1).toArray⟩) (by simp [txt3])]
  · refine (C4.out w5).mono ?_
    rintro e w6 ⟨rfl, b6⟩
    have B6 := Lib.hid (B5.out.trans (b6.mono B5.out.size))
    clear b6 V5 B5
    go_wp2_with fail
    go_ret
    refine ⟨?_, B6.out⟩
    show Ending.returned (.string (s ++ (⟨#[32]⟩ : ByteArray) ++ p ++ (⟨#[32]⟩ : ByteArray) ++ q)) = _
    rw [bytes_ext (a := s ++ (⟨#[32]⟩ : ByteArray) ++ p ++ (⟨#[32]⟩ : ByteArray) ++ q) (b := ⟨(txt3 s.data.toList p.data.toList q.data.toList 2).toArray⟩) (by simp [txt3])]
end Go.Proofs.YtfofpammnfcmiaaDoor.Ip
