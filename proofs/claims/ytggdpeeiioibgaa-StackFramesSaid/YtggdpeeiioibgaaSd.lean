/- Marline, layer 36: a frame begins of arguments, or of values that are there. Conditions: as each says. -/
import Derived.Test.YtggdpeeiioibgaaSl
namespace Go.Proofs.Ytggdpeeiioibgaa.E
open Go.RowKit Go.Proofs.YtggdpeeiioibgaaW.PrintWords Go.Proofs.YtggdpeeiioibgaaW.PrintLast Go.Proofs.YtggdpeeiioibgaaW.PrintMore Go.Proofs.Ytggdpeeiioibgaa.Kinds Go.Proofs.Ytggdpeeiioibgaa.Obj
set_option linter.unusedVariables false
set_option linter.unusedSimpArgs false

theorem zero_FK (w : World) (ok : Nat → Prop) : Kd.FK k24 w ok z24 [.int .i64 0, .int .i64 0, .slice none 0 0] := k24_mkF w ok z24 (Nat.le_refl _) (Kd.F_nil k24 w ok)
theorem N_ad3 {W : World} {N0 b n : Nat} {ok : Nat → Prop} {A : Option Addr} {c : Nat} {xs : List S24} (h : Kd.N k24 24 W N0 ok (.slice A n c) xs) (hk : (Value.slice A n c).ownBlock = some b) : A = some ⟨b, 0, none⟩ := by
  obtain ⟨_, rows, hl, ⟨_, inner, ho, _⟩, _⟩ := h
  rcases ho.2 with ⟨hv, _⟩ | ⟨g, cap, cur, hv, _⟩
  · rw [hv] at hk
    cases hk
  · injection hv with e1 e2 e3
    subst e1
    simp only [Value.ownBlock, Option.some.injEq] at hk
    rw [hk]
/-- a frame's slots at first. -/
def slots (n : Nat) (ys : List S24) : List S24 := ys ++ List.replicate (n - ys.length) z24
theorem und109 : Try.prog.underlying 109 = some (.slice 115) := by kernel_rfl
set_option maxHeartbeats 4000000 in
set_option maxRecDepth 100000 in
theorem begin_is {N0 : Nat} {P : Nat → Prop} {s : Nat} {l : List S65} (w : World) (h : Stk N0 w P s l) (fn bk : Int) (n : Nat) (hn : n ≤ 1000000) (v : Value) (ys : List S24) (hv : Kd.N k24 24 w N0 (fun k => k < N0 ∨ v.ownBlock = some k) v ys) (hy : ys.length ≤ n) (hl : l.length ≤ 1000000) :
    Calls Try.prog 76 #[.pointer (some ⟨s, 0, none⟩), .int .i64 fn, .int .i64 bk, .int .i64 n, v] w fun e w' => e = .returned (.tuple #[]) ∧ Stk N0 w' (fun k => P k ∨ w.heap.size ≤ k) s (⟨fn, bk, slots n ys, []⟩ :: l) ∧ Ch P w w' := by
  have hu22 := Try.underlying22
  obtain ⟨A, c, fs, hx⟩ := h.x
  have hN0 : N0 ≤ w.heap.size := by have := hx.ge; have := blk_lt hx.blk; omega
  obtain ⟨s0, s1⟩ := hx.cell
  have HX := Lib.hid hx; have HN := Lib.hid hN0; have HV := Lib.hid hv; have HY := Lib.hid hy; have HL := Lib.hid hl
  have hn1 : (0 : Int) ≤ (n : Int) := by omega
  have hn2 : ((n : Int)).toNat * 40 ≤ 281474976710656 := by rw [Int.toNat_natCast]; omega
  clear h hx hN0 hv hy hl
  go_enter Try.func76, Try.ntmps76
  go_upto_region 1 with (refine Kd.N_make k24 (w0 := w) w.heap.size 24 rfl rfl 22 (.tmp 13) (.tmp 13) rfl (n : Int) rfl rfl Try.underlying22 (.agg #[(.int .i64 0), (.int .i64 0), (.slice none 0 0)]) 40 info24 rfl (by decide) (by decide) z24 (ok := fun k => k = w.heap.size) (okp := fun _ => False) (zero_FK w _) (fun _ h => h.elim) rfl hn1 hn2 (Below.refl _ _) (Nat.le_refl _) ?_; intro v1 w1 h1 h2 h3 h4; rw [Int.toNat_natCast] at h1; obtain ⟨B, d, rfl⟩ := Kd.N_slice h1; rw [List.length_replicate] at h1 h4 ⊢; have N1 := Lib.hid h1; have B1 := Lib.hid h2; have G1 := Lib.hid h3; have A1 := Lib.hid h4; clear h1 h2 h3 h4)
  obtain ⟨b, hb, hbl⟩ := A1.out
  have hB := N_ad3 N1.out hb
  have hbe := N1.out.1 b hb
  have hb1 := Kd.N_lt N1.out b hb
  subst hB
  obtain ⟨f, hf⟩ : ∃ f, w1.heap.size = f := ⟨_, rfl⟩
  have G2 : ∃ w2 : World, w1.alloc (.cells #[.int .i64 fn, .int .i64 bk, .slice (some ⟨b, 0, none⟩) n d, .slice none 0 0] 118) = w2 ∧ w2.heap[f]? = some (.cells #[.int .i64 fn, .int .i64 bk, .slice (some ⟨b, 0, none⟩) n d, .slice none 0 0] 118 (0, 0)) ∧ Below w.heap.size w w2 ∧
      Kd.N k24 24 w2 N0 (fun k => k < N0 ∨ (Value.slice (some ⟨b, 0, none⟩) n d).ownBlock = some k) (.slice (some ⟨b, 0, none⟩) n d) (List.replicate n z24) ∧ f < w2.heap.size :=
    ⟨_, rfl, by rw [← hf]; exact blk_new _ _, below_alloc B1.out _, Kd.N_alloc (Kd.N_lower (Kd.N_mono N1.out (fun k hk => .inr (by rw [hb, hk, hbe]))) HN.out) _, by rw [size_al]; omega⟩
  rw [hf]
  obtain ⟨w2, hw2, hblk, hb2, hN2, hfl⟩ := G2
  rw [hw2]
  have hvl : v.ownBlock ≠ some b := fun e => by have := Kd.N_lt HV.out b e; omega
  have hNB : N0 ≤ b := by have := HN.out; omega
  obtain ⟨w3, hcp, hN3, hg3⟩ := copy_run (xs := List.replicate n z24) 3 (by rw [List.length_replicate]; exact hN2) (Kd.N_below HV.out hb2) hvl (by rw [List.length_replicate]; exact HY.out) (fun k hk hne => by
    rcases hk with hk | hk
    · exact ⟨.inl hk, by omega⟩
    · exact absurd hk.symm hne)
  rw [List.length_replicate] at hcp hN3
  have hfw : w.heap.size ≤ f := by have := B1.out.size; omega
  have k2 : w2.cell? ⟨f, 2, none⟩ = some (.slice (some ⟨b, 0, none⟩) n d) := by simp [World.cell?, hblk]
  have W3 : Below w.heap.size w w3 := hb2.trans ⟨hg3.os, hg3.tape, hg3.output, hg3.size, fun k hk => hg3.block k (Nat.lt_of_lt_of_le hk hb2.size) (fun e => by injection e; omega)⟩
  have hblk3 : w3.heap[f]? = some (.cells #[.int .i64 fn, .int .i64 bk, .slice (some ⟨b, 0, none⟩) n d, .slice none 0 0] 118 (0, 0)) := blk_grown hblk hg3 (fun e => by injection e; omega)
  have N3 := Lib.hid hN3; have B3 := Lib.hid W3; have BK3 := Lib.hid hblk3; have FW := Lib.hid hfw; have NB := Lib.hid hNB; have BE := Lib.hid hbe
  have s2 := pw_cell_below W3 s0
  have s3 : w3.frozen? ⟨s, 0, none⟩ = false := by
    have := (W3.block s (blk_lt HX.out.blk)).trans HX.out.blk
    simp [World.frozen?, this]
  clear hN3 W3 hblk3 hg3 hNB hvl hfl hN2 hb2 hblk hw2 hf hb1 hbe hbl hb hfw s0 s1 N1 B1 G1 A1
  go_upto_region 2 with (refine wpList_copy3 _ rfl (.tmp 20) (.tmp 21) 22 22 rfl _ _ rfl rfl hcp ?_)
  have hlen := HX.out.frs.len
  have HO := Lib.hid (show kp.R 115 w3 N0 (fun k => P k ∨ w.heap.size ≤ k) (.slice A l.length c) fs.reverse from Kd.R_mono (Kd.R_below HX.out.row B3.out) (fun k hk => .inl hk))
  have HB0 := Lib.hid (Below.refl N0 w3)
  have HBS := Lib.hid (Nat.le_trans HN.out B3.out.size)
  have HLB := Lib.hid (show (fs.reverse.length + 1) * 8 ≤ 140737488355328 by rw [List.length_reverse, hlen]; have := HL.out; omega)
  have HFR := Lib.hid (show ∀ k, w3.heap.size ≤ k → (P k ∨ w.heap.size ≤ k) from fun k hk => .inr (Nat.le_trans B3.out.size hk))
  have SB := Lib.hid ((B3.out.block s (blk_lt HX.out.blk)).trans HX.out.blk)
  have SN := Lib.hid HX.out.row_ne
  have hl4 : (fs.reverse ++ [f]).length = l.length + 1 := by simp [hlen]
  have HL4 := Lib.hid hl4
  clear hlen hcp k2 hu22 hn1 hn2 hl4
  go_wp2_with ((with_reducible refine gate_builtin (b := .append) (xs := #[.tmp 27, .tmp 29]) rfl ?_); at_builtin; refine Kd.R_append kp (w0 := w3) N0 rfl (.tmp 27) (.tmp 29) 109 115 (.pointer none) 8 rfl und109 info115 rfl (by decide) (by decide) (.slice A l.length c) fs.reverse f [.pointer (some ⟨f, 0, none⟩)] (fun k => P k ∨ w.heap.size ≤ k) (fun _ => False) rfl rfl rfl (fun _ h => h.elim) HFR.out HO.out HB0.out HBS.out HLB.out ?_; intro v4 w4 h1 h2 h3 h4; obtain ⟨A4, c4, rfl⟩ := Kd.R_slice h1; rw [HL4.out] at h1 h4 ⊢; have s4 : w4.frozen? ⟨s, 0, none⟩ = false := (by have := blk_grown SB.out h3 SN.out; simp [World.frozen?, this]); have s5 : w4.cell? ⟨s, 0, none⟩ = some (.slice A l.length c) := (by have := blk_grown SB.out h3 SN.out; simp [World.cell?, this]); have R4 := Lib.hid h1; have G4 := Lib.hid h3; have A4_ := Lib.hid h4; clear h1 h2 h3 h4)
  go_end0
  have hsl := blk_lt HX.out.blk
  have hge := HX.out.ge
  have hfw := FW.out
  have hbe := BE.out
  have hb3 := B3.out.size
  have hown : ∀ k, (Value.slice A l.length c).ownBlock = some k → k < w.heap.size ∧ N0 ≤ k := fun k hk => ⟨Kd.R_lt HX.out.row k hk, Kd.R_base HX.out.row k hk⟩
  have hf3 := blk_lt BK3.out
  have S4 := blk_grown SB.out G4.out SN.out
  have F4 := blk_grown BK3.out G4.out (fun e => by have := hown f e.symm; omega)
  have st : ∀ k, k ≠ s → (Value.slice A l.length c).ownBlock ≠ some k → k < w3.heap.size → (w4.setCell ⟨s, 0, none⟩ (.slice A4 (l.length + 1) c4)).heap[k]? = w3.heap[k]? := fun k h1 h2 h3 =>
    (Below.heap_setCell w4 ⟨s, 0, none⟩ _ k h1).trans (G4.out.block k h3 (fun e => h2 e.symm))
  have st2 : ∀ k, k ≠ s → (Value.slice A l.length c).ownBlock ≠ some k → k < w.heap.size → (w4.setCell ⟨s, 0, none⟩ (.slice A4 (l.length + 1) c4)).heap[k]? = w.heap[k]? := fun k h1 h2 h3 => (st k h1 h2 (Nat.lt_of_lt_of_le h3 hb3)).trans (B3.out.block k h3)
  have hN4 : ∀ k, k < N0 → k ≠ s ∧ (Value.slice A l.length c).ownBlock ≠ some k := fun k hk => ⟨by omega, fun e => by have := hown k e; omega⟩
  have hb4 := Kd.N_lt N3.out b rfl
  obtain ⟨cb, hcb⟩ := Kd.N_typed N3.out b rfl
  have C4 := blk_grown hcb G4.out (fun e => by have := hown b e.symm; omega)
  have n4s := Kd.R_ne R4.out S4 (by decide)
  have n4f := Kd.R_ne R4.out F4 (by decide)
  have n4b := Kd.R_ne R4.out C4 (by decide)
  have hsl2 : slots n ys = ys ++ List.drop ys.length (List.replicate n z24) := by rw [List.drop_replicate]; rfl
  refine ⟨rfl, ⟨.inl HX.out.ps, hge, _, f :: fs, blk_set S4 0 _, ?_, .slice (some ⟨b, 0, none⟩) n d, .slice none 0 0, ⟨?_, ?_, Kd.N_nil _ _ _ _ _, fun k _ he => by simp [Value.ownBlock] at he⟩, fun k hk => ?_, ?_⟩, ?_⟩
  · rw [List.reverse_cons]
    exact Kd.R_mono (Kd.R_step (Kd.R_tight2 rfl R4.out) (fun k hk _ => Below.heap_setCell w4 ⟨s, 0, none⟩ _ k (fun e => n4s (by have e : k = s := e; rw [← e]; exact hk.1)))) (fun k hk => hk.2)
  · exact (st f (by omega) (fun e => by have := hown f e; omega) hf3).trans BK3.out
  · rw [hsl2]
    refine Kd.N_step N3.out (fun k hk hlt => ?_)
    rcases hk with hk | hk
    · exact st k (hN4 k hk).1 (hN4 k hk).2 hlt
    · simp only [Value.ownBlock, Option.some.injEq] at hk
      exact st k (by omega) (fun e => by have := hown k e; omega) hlt
  · rcases hk with hk | hk | hk
    · exact ⟨⟨.inr (by omega), by omega, fun e => n4f (by rw [← hk]; exact e.symm)⟩, by omega⟩
    · simp only [Value.ownBlock, Option.some.injEq] at hk
      exact ⟨⟨.inr (by omega), by omega, fun e => n4b (by rw [hk]; exact e.symm)⟩, by omega⟩
    · simp [Value.ownBlock] at hk
  · have hF : Frs N0 w (fun k => (P k ∧ k ≠ s ∧ (Value.slice A l.length c).ownBlock ≠ some k) ∧ k < w.heap.size) fs l := Frs.mono HX.out.frs (fun k hk hlt => ⟨hk, hlt⟩)
    refine Frs.mono (Frs.step (hU := trivial) hF (fun k hk hlt => ?_)) (fun k hk _ => ?_)
    · rcases hk with hk | hk
      · exact st2 k hk.1.2.1 hk.1.2.2 hlt
      · exact st2 k (hN4 k hk).1 (hN4 k hk).2 hlt
    · refine ⟨⟨.inl hk.1.1, hk.1.2.1, fun e => ?_⟩, fun hp => ?_⟩
      · rcases A4_.out with h1 | ⟨b', h1, h2⟩
        · exact hk.1.2.2 (h1.symm.trans e)
        · have h3 := h1.symm.trans e
          injection h3 with h3
          have := hk.2
          omega
      · have := hk.2
        rcases hp with hp | hp | hp
        · omega
        · simp only [Value.ownBlock, Option.some.injEq] at hp
          omega
        · simp [Value.ownBlock] at hp
  · exact ((Ch.of_below B3.out).grown G4.out (fun i hi => .inl (HX.out.row.1 i hi))).setCell (.inl HX.out.ps) _
end Go.Proofs.Ytggdpeeiioibgaa.E
namespace Go.Proofs.Ytggdpeeiioibgaa.E
open Go.RowKit Go.Proofs.YtggdpeeiioibgaaW.PrintWords Go.Proofs.YtggdpeeiioibgaaW.PrintLast Go.Proofs.YtggdpeeiioibgaaW.PrintMore Go.Proofs.Ytggdpeeiioibgaa.Kinds Go.Proofs.Ytggdpeeiioibgaa.Obj
set_option linter.unusedVariables false
set_option linter.unusedSimpArgs false

theorem start_yes {N0 : Nat} {P : Nat → Prop} {s : Nat} {l : List S65} (w : World) (h : Stk N0 w P s l) (fn : Int) (n : Nat) (hn : n ≤ 1000000) (A : Option Addr) (c : Nat) (ys : List S24) (hv : Kd.N k24 24 w N0 (fun k => k < N0 ∨ (Value.slice A ys.length c).ownBlock = some k) (.slice A ys.length c) ys) (hy : ys.length ≤ n) (hl : l.length ≤ 1000000) :
    Calls Try.prog 43 #[.pointer (some ⟨s, 0, none⟩), .int .i64 fn, .int .i64 n, .slice A ys.length c] w fun e w' => e = .returned (.bool true) ∧ Stk N0 w' (fun k => P k ∨ w.heap.size ≤ k) s (⟨fn, 0, slots n ys, []⟩ :: l) ∧ Ch P w w' := by
  have BG := Lib.hid (begin_is w h fn 0 n hn _ ys hv hy hl)
  have p1 : decide ((n : Int) < (ys.length : Int)) = false := decide_eq_false (by omega)
  have p2 : ¬ n < ys.length := by omega
  clear h hv hn hy hl
  go_enter Try.func43, Try.ntmps43
  go_wp2_with fail
  refine BG.out.mono ?_
  rintro e w2 ⟨rfl, h1, h2⟩
  have H1 := Lib.hid h1; have H2 := Lib.hid h2
  clear h1 h2
  go_wp2_with fail
  go_ret
  exact ⟨rfl, H1.out, H2.out⟩
theorem start_no {N0 : Nat} {P : Nat → Prop} {s : Nat} {l : List S65} (w : World) (h : Stk N0 w P s l) (fn : Int) (n : Int) (A : Option Addr) (c m : Nat) (hn : n < m) :
    Calls Try.prog 43 #[.pointer (some ⟨s, 0, none⟩), .int .i64 fn, .int .i64 n, .slice A m c] w fun e w' => e = .returned (.bool false) ∧ Below w.heap.size w w' := by
  have p1 : decide (n < (m : Int)) = true := decide_eq_true hn
  clear h
  go_enter Try.func43, Try.ntmps43
  go_wp2_with fail
  go_ret
  exact ⟨rfl, Below.refl _ _⟩
theorem enter_yes {N0 : Nat} {P : Nat → Prop} {s : Nat} {x : S65} {l : List S65} (w : World) (h : Stk N0 w P s (x :: l)) (fn bk : Int) (n m : Nat) (hn : n ≤ 1000000) (hm : m ≤ x.f3.length) (hmn : m ≤ n) (hbig : x.f3.length ≤ 1000000) (hl : l.length < 1000000) :
    Calls Try.prog 46 #[.pointer (some ⟨s, 0, none⟩), .int .i64 fn, .int .i64 bk, .int .i64 n, .int .i64 m] w fun e w' => e = .returned (.bool true) ∧
      Stk N0 w' (fun k => P k ∨ w.heap.size ≤ k) s (⟨fn, bk, slots n (x.f3.drop (x.f3.length - m)), []⟩ :: ⟨x.f0, x.f1, x.f2, x.f3.take (x.f3.length - m)⟩ :: l) ∧ Ch P w w' := by
  have TK := Lib.hid (take_is w h m hm (by omega))
  have p1 : decide ((n : Int) < (m : Int)) = false := decide_eq_false (by omega)
  have p2 : ¬ n < m := by omega
  have HN := Lib.hid hn; have HM := Lib.hid hm; have HMN := Lib.hid hmn; have HL := Lib.hid hl
  clear h hn hm hmn hbig hl
  go_enter Try.func46, Try.ntmps46
  go_wp2_with fail
  refine TK.out.mono ?_
  rintro e w2 ⟨v, rfl, h1, h2, h3, h4⟩
  have BG := Lib.hid (begin_is w2 h3 fn bk n HN.out v _ h1 (by rw [List.length_drop]; have := HM.out; have := HMN.out; omega) (by have := HL.out; simp; omega))
  have H4 := Lib.hid h4
  clear h1 h2 h3 h4
  go_wp2_with fail
  refine BG.out.mono ?_
  rintro e w3 ⟨rfl, h1, h2⟩
  have H1 := Lib.hid (h1.mono (Q := fun k => P k ∨ w.heap.size ≤ k) (fun k hk => hk.imp id (fun e => Nat.le_trans H4.out.size e))); have H2 := Lib.hid (Ch.trans H4.out h2 (fun i hi => .inl hi))
  clear h1 h2
  go_wp2_with fail
  go_ret
  exact ⟨rfl, H1.out, H2.out⟩
end Go.Proofs.Ytggdpeeiioibgaa.E
