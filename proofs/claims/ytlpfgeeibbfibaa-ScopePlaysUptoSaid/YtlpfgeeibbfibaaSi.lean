/- Marline, layer 19: a name put into a scope. Conditions: as each says. -/
import Derived.Test.YtlpfgeeibbfibaaSh
namespace Go.Proofs.Ytlpfgeeibbfibaa.E
open Go.RowKit Go.Proofs.YtlpfgeeibbfibaaW.PrintWords Go.Proofs.YtlpfgeeibbfibaaW.PrintLast Go.Proofs.YtlpfgeeibbfibaaW.PrintMore Go.Proofs.Ytlpfgeeibbfibaa.Kinds Go.Proofs.Ytlpfgeeibbfibaa.Obj
set_option linter.unusedVariables false
set_option linter.unusedSimpArgs false
set_option maxRecDepth 100000
abbrev cN (x : S30) (A : Option Addr) (c : Nat) : Array Value := #[.int .i64 x.f0, .int .i64 x.f1, .int .i64 x.f2, .string x.f3, .slice A x.f4.length c]
theorem upd_alloc {w : World} {g : Nat} (hg : g < w.heap.size) (o : Obj) : Upd g w (w.alloc o) := upd_below hg (below_alloc (Below.refl _ _) o)
set_option maxHeartbeats 8000000 in
theorem put_no {N0 : Nat} {g : Nat} {vN vB : Value} {l : List S53} {bs : List Int} {m : Int} (nm : ByteArray) (x : S30) (A : Option Addr) (c : Nat) (w : World) (h : Sco N0 w g vN vB l bs m) (hl : l.length ≤ 1000000000) (i : Nat) (hi : idx nm l 0 = some i) :
    Calls Try.prog 16 #[.pointer (some ⟨g, 0, none⟩), .string nm, nV x A c] w fun e w' => e = .returned (.tuple #[.int .i64 0, .bool false]) ∧ Below w.heap.size w w' := by
  have hu30 := Try.underlying30
  have D := Lib.hid (get_is nm (w.alloc (.cells (cN x A c) 30)) (h.below (below_alloc (Below.refl _ _) _)) hl)
  rw [hi] at D
  have HA := Lib.hid (below_alloc (Below.refl w.heap.size w) (.cells (cN x A c) 30))
  clear h hl hi
  go_enter Try.func16, Try.ntmps16
  go_wp2_with fail
  refine D.out.mono ?_
  rintro e w2 ⟨⟨A2, c2, rfl, _, _⟩, hb⟩
  have HB := Lib.hid (HA.out.trans (hb.mono HA.out.size))
  clear hb D
  go_wp2_with fail
  go_ret2
  exact ⟨rfl, below_alloc HB.out _⟩
set_option maxHeartbeats 8000000 in
theorem put_yes {N0 : Nat} {g : Nat} {vN vB : Value} {l : List S53} {bs : List Int} {m : Int} (nm : ByteArray) (x : S30) (A : Option Addr) (c : Nat) (w : World) (h : Sco N0 w g vN vB l bs m) (hl : l.length ≤ 1000000) (hi : idx nm l 0 = none) (hc : x.f4.length ≤ c) (hF : Kd.F k30 w (fun k => k < N0) A x.f4.length x.f4) :
    Calls Try.prog 16 #[.pointer (some ⟨g, 0, none⟩), .string nm, nV x A c] w fun e w' => e = .returned (.tuple #[.int .i64 l.length, .bool true]) ∧ ∃ vN', Sco N0 w' g vN' vB (l ++ [⟨nm, x⟩]) bs (max m ((l.length : Int) + 1)) ∧ Upd g w w' := by
  have hu30 := Try.underlying30
  have hu53 := Try.underlying53
  have D := Lib.hid (get_is nm (w.alloc (.cells (cN x A c) 30)) (h.below (below_alloc (Below.refl _ _) _)) (by omega))
  rw [hi] at D
  obtain ⟨gx, hgx⟩ : ∃ gx, w.heap.size = gx := ⟨_, rfl⟩
  have HX := Lib.hid (show Nd (w.alloc (.cells (cN x A c) 30)) gx (cN x A c) by rw [← hgx]; exact blk_new w _)
  have HGX := Lib.hid hgx
  have HA := Lib.hid (below_alloc (Below.refl w.heap.size w) (.cells (cN x A c) 30))
  have H := Lib.hid h; have HL := Lib.hid hl; have HC := Lib.hid hc; have HF := Lib.hid hF
  clear h hl hi hc hF hgx
  go_enter Try.func16, Try.ntmps16
  go_wp2_with fail
  refine D.out.mono ?_
  rintro e w2 ⟨he, hb⟩
  obtain rfl := he
  have HB := Lib.hid (HA.out.trans (hb.mono HA.out.size))
  have HX2 := Lib.hid (HX.out.below hb)
  clear hb D HX
  go_upto_region 2 with (fail)
  obtain ⟨w3, hw3, x3, b3⟩ : ∃ w3 : World, w2.alloc (.cells #[.int .i64 0, .int .i64 0, .int .i64 0, .string ⟨#[]⟩, .slice none 0 0] 30) = w3 ∧ Nd w3 gx (cN x A c) ∧ Below w.heap.size w w3 := ⟨_, rfl, HX2.out.below (below_alloc (Below.refl _ _) _), below_alloc HB.out _⟩
  rw [hw3, HGX.out]
  clear hw3 HX2 HB
  have HP := Lib.hid (Kd.F_below HF.out b3)
  have S3 := Lib.hid (H.out.below b3); have B3 := Lib.hid b3
  obtain ⟨A0, c0, rfl⟩ := Kd.N_slice S3.out.N
  obtain ⟨k0, k1, k2, f0, f1, f2⟩ := S3.out.cells
  obtain ⟨a0, a1, a2, a3, a4, _, _, _, _, _⟩ := x3.cells
  clear x3 b3
  have nn := World.new_ne w3 _ k0
  have nn2 := World.new_ne w3 _ a0
  have ng : g < w3.heap.size := S3.out.lt
  have ng2 : gx < w3.heap.size := World.block_lt_of_cell? _ _ a0
  have SD := Lib.hid (S3.out.below (below_drew (Below.refl w3.heap.size w3)))
  obtain ⟨rows, hrl, hRR, hff⟩ : ∃ rows : List (List Value), rows.length = l.length ∧ (Kd.raw 6).R 53 w3.drew N0 (fun _ => True) (.slice A0 l.length c0) rows ∧ ∀ (j : Nat) (z : S53) (cc : List Value), l[j]? = some z → rows[j]? = some cc → Kd.FK k53 w3.drew (fun k => k < N0) z cc := by
    obtain ⟨_, rows, h1, h2, h3⟩ := SD.out.N
    exact ⟨rows, h1, Kd.raw_any h2, fun j z cc hz hcc => Kd.FK_mono (h3 j z cc hz hcc) (fun k hk => hk.1.resolve_right (fun he => hk.2 he.symm))⟩
  have HRL := Lib.hid hrl; have HRR := Lib.hid hRR; have HFF := Lib.hid hff
  have HNEW := Lib.hid (show Kd.FK k53 w3.drew (fun k => k < N0) (⟨nm, x⟩ : S53) [.string nm, .int .i64 x.f0, .int .i64 x.f1, .int .i64 x.f2, .string x.f3, .slice A x.f4.length c] from k53_mkF w3.drew _ ⟨nm, x⟩ HC.out (Kd.F_below HP.out (below_drew (Below.refl _ _))))
  have HRAW := Lib.hid (Kd.FK_raw HNEW.out)
  have HBD := Lib.hid (below_drew (Below.mono B3.out (show N0 ≤ w.heap.size from H.out.size)))
  have HSZ := Lib.hid (show N0 ≤ w3.drew.heap.size from S3.out.size)
  have HL80 := Lib.hid (show (rows.length + 1) * 80 ≤ 140737488355328 by rw [hrl]; have := HL.out; omega)
  clear hrl hRR hff
  go_upto_region 4 with (fail)
  go_region_law
    ((first
      | (refine Kd.R_append_step (Kd.raw 6) (w0 := w) N0 rfl (.tmp 27) (.tmp 31) 47 53 (.agg #[.string ⟨#[]⟩, .int .i64 0, .int .i64 0, .int .i64 0, .string ⟨#[]⟩, .slice none 0 0]) 80 rfl Try.underlying47 info53 rfl (by decide) (by decide) (.slice A0 l.length c0) rows [.string nm, .int .i64 x.f0, .int .i64 x.f1, .int .i64 x.f2, .string x.f3, .slice A x.f4.length c] [.string nm, .int .i64 x.f0, .int .i64 x.f1, .int .i64 x.f2, .string x.f3, .slice A x.f4.length c] (fun _ => True) (fun _ => False) rfl rfl HRAW.out (fun _ hk => hk.elim) (fun _ _ => trivial) HRR.out HBD.out HSZ.out HL80.out ?_; intro v2' w5 ho hbl hg hat; have hb2 := blk_grown SD.out.blk hg SD.out.neN; obtain ⟨q0, q1, q2⟩ : w5.cell? ⟨g, 0, none⟩ = some (.slice A0 l.length c0) ∧ w5.cell? ⟨g, 1, none⟩ = some vB ∧ w5.cell? ⟨g, 2, none⟩ = some (.int .i64 m) := ⟨(blk_cell hb2 0).trans rfl, (blk_cell hb2 1).trans rfl, (blk_cell hb2 2).trans rfl⟩; have qf := blk_frozen hb2 0; have HO := Lib.hid (low_app HRL.out HFF.out HNEW.out (Kd.N_base SD.out.N) ho hg); obtain ⟨A2', c2', rfl⟩ := Kd.R_slice ho; have HG := Lib.hid hg; have HAT := Lib.hid hat; clear ho hg hat hb2 hbl)))
  all_goals
    obtain ⟨S5, U5⟩ := Sco.setN SD.out HG.out (v1 := .slice A2' (rows.length + 1) c2') (l' := l ++ [⟨nm, x⟩]) (by have h := HO.out; rw [List.length_append] at h; exact h) (by have h := HAT.out; rw [List.length_append] at h; exact h)
    obtain ⟨w6, hw6, s6, u6⟩ : ∃ w6, w5.setCell ⟨g, 0, none⟩ (.slice A2' (rows.length + 1) c2') = w6 ∧ Sco N0 w6 g (.slice A2' (rows.length + 1) c2') vB (l ++ [⟨nm, x⟩]) bs m ∧ Upd g w w6 := ⟨_, rfl, S5, Upd.trans (upd_below H.out.lt (below_drew B3.out)) U5⟩
    rw [hw6]
    have S6 := Lib.hid s6; have U6 := Lib.hid u6
    obtain ⟨k0, k1, k2, f0, f1, f2⟩ := s6.cells
    rw [HRL.out] at k0 S6
    clear S5 U5 hw6 s6 u6 nn nn2 ng ng2 q0 q1 q2 qf a0 a1 a2 a3 a4
    go_upto_region 5 with (fail)
    go_region
    all_goals
      go_wp2_with fail
      all_goals
        go_ret2
        first
          | (have em : max m ((l.length : Int) + 1) = m := by omega
             rw [em]
             obtain ⟨S7, U7⟩ := Sco.setM S6.out m
             exact ⟨by rw [w_nat (Nat.le_trans HL.out (by decide))]; rfl, ⟨_, S7.below (below_drew (Below.refl _ _))⟩, Upd.drew (Upd.trans U6.out U7)⟩)
          | (have em : max m ((l.length : Int) + 1) = (l.length : Int) + 1 := by omega
             rw [em]
             obtain ⟨S7, U7⟩ := Sco.setM S6.out ((l.length : Int) + 1)
             exact ⟨by rw [w_nat (Nat.le_trans HL.out (by decide))]; rfl, ⟨_, S7.below (below_drew (Below.refl _ _))⟩, Upd.drew (Upd.trans U6.out U7)⟩)
end Go.Proofs.Ytlpfgeeibbfibaa.E
