/- Marline, layer 19: one call of both, by the law's step. Conditions: as each says. -/
import Derived.Test.YtlpfgeeibbfibaaSj
import Derived.Test.YtlpfgeeibbfibaaSk
namespace Go.Proofs.Ytlpfgeeibbfibaa.E
open Go.RowKit Go.Proofs.YtlpfgeeibbfibaaW.PrintWords Go.Proofs.YtlpfgeeibbfibaaW.PrintLast Go.Proofs.YtlpfgeeibbfibaaW.PrintMore Go.Proofs.Ytlpfgeeibbfibaa.Kinds Go.Proofs.Ytlpfgeeibbfibaa.Obj
set_option linter.unusedVariables false
set_option linter.unusedSimpArgs false
set_option maxRecDepth 100000
/-- the document's names in memory, apart from the scope. -/
def Ref (N0 : Nat) (w : World) (g : Nat) (v : Value) (L : List S41) : Prop := ∃ Q : Nat → Prop, (∀ k, k < N0 → Q k) ∧ (∀ k, Q k → ¬ Foot w g k) ∧ Kd.N k41 41 w N0 Q v L
section
variable {N0 : Nat} {w w2 : World} {g : Nat} {vN vB v : Value} {l : List S53} {bs : List Int} {m : Int} {L : List S41}
theorem Sco.foot_lt (h : Sco N0 w g vN vB l bs m) {k : Nat} (hk : Foot w g k) : k < w.heap.size := by
  rcases h.foot.1 hk with rfl | h1 | h1
  · exact h.lt
  · exact Kd.N_lt h.N k h1
  · exact Kd.R_lt h.B k h1
theorem Ref.upd (r : Ref N0 w g v L) (h : Sco N0 w g vN vB l bs m) (u : Upd g w w2) : Ref N0 w2 g v L := by
  obtain ⟨Q, q1, q2, q3⟩ := r
  have hs := h.size
  refine ⟨fun k => Q k ∧ k < w.heap.size, fun k hk => ⟨q1 k hk, by omega⟩, fun k hk hf => ?_, Kd.N_step (Kd.N_bound q3) (fun k hk hlt => u.1.block k hlt (q2 k hk.1))⟩
  rcases u.2 k hf with h1 | h1
  · exact q2 k hk.1 h1
  · have := hk.2; omega
theorem Ref.below (r : Ref N0 w g v L) (h : Sco N0 w g vN vB l bs m) (hb : Below w.heap.size w w2) : Ref N0 w2 g v L := r.upd h (upd_below h.lt hb)
theorem ref_nil (h : Sco N0 w g vN vB l bs m) : Ref N0 w g (.slice none 0 0) [] := ⟨fun k => k < N0, fun _ hk => hk, fun k hk hf => by have := h.low hf; omega, Kd.N_nil _ _ _ _ _⟩
theorem Ref.reads {A : Option Addr} {c n : Nat} (r : Ref N0 w g (.slice A n c) L) : n = L.length ∧ n ≤ c ∧ Kd.C k41 w A L.length L := by
  obtain ⟨Q, _, _, q3⟩ := r
  exact Kd.N_reads' q3
theorem Ref.slice (r : Ref N0 w g v L) : ∃ A c, v = .slice A L.length c := by
  obtain ⟨Q, _, _, q3⟩ := r
  exact Kd.N_slice q3
end
theorem w_ix1 {n : Nat} (h : n ≤ 1000) : wrap64 ((n : Int) + 1) = (n : Int) + 1 := by unfold wrap64; omega
theorem deep1 {bs : List Nat} (b : Nat) (h : bs.length ≤ 1000) : wrap64 ((bs.length : Int) + 1) = ((bs ++ [b]).length : Int) := by rw [w_ix1 h, List.length_append]; rfl
/-- what a step leaves. -/
def StepP (N0 : Nat) (g : Nat) (w : World) (L : List S41) (bs : List Nat) (m : Int) (y : S32) (e : Ending) (w' : World) : Prop :=
  ∃ (v' : Value) (L' : List S41) (bs' : List Nat) (vN' vB' : Value), e = .returned (.tuple #[v', .int .i64 bs'.length, .bool true]) ∧ Inv L' bs' ∧ Ref N0 w' g v' L' ∧ Sco N0 w' g vN' vB' (L'.map nmOf) (bs'.map (fun b : Nat => (b : Int))) (max m (L'.length : Int)) ∧ L'.length ≤ L.length + 1 ∧ bs'.length ≤ bs.length + 1 ∧ Below N0 w w' ∧ ∀ z, z ∈ L' → z ∈ L ∨ z.f1 = y.f2
/-- a call in a variable. -/
def Ov (w : World) (g : Nat) (y : S32) (A : Option Addr) (c : Nat) : Prop := w.heap[g]? = some (.cells #[.int .i64 y.f0, .string y.f1, .int .i64 y.f2.f0, .int .i64 y.f2.f1, .int .i64 y.f2.f2, .string y.f2.f3, .slice A y.f2.f4.length c] 32 (0, 0))
theorem Ov.cells {w : World} {g : Nat} {y : S32} {A : Option Addr} {c : Nat} (h : Ov w g y A c) : w.cell? ⟨g, 0, none⟩ = some (.int .i64 y.f0) ∧ w.cell? ⟨g, 1, none⟩ = some (.string y.f1) ∧ w.cell? ⟨g, 2, none⟩ = some (.int .i64 y.f2.f0) ∧ w.cell? ⟨g, 3, none⟩ = some (.int .i64 y.f2.f1) ∧ w.cell? ⟨g, 4, none⟩ = some (.int .i64 y.f2.f2) ∧ w.cell? ⟨g, 5, none⟩ = some (.string y.f2.f3) ∧ w.cell? ⟨g, 6, none⟩ = some (.slice A y.f2.f4.length c) :=
  ⟨(blk_cell h 0).trans rfl, (blk_cell h 1).trans rfl, (blk_cell h 2).trans rfl, (blk_cell h 3).trans rfl, (blk_cell h 4).trans rfl, (blk_cell h 5).trans rfl, (blk_cell h 6).trans rfl⟩
theorem Ov.below {w w' : World} {g : Nat} {y : S32} {A : Option Addr} {c : Nat} (h : Ov w g y A c) (hb : Below w.heap.size w w') : Ov w' g y A c := (hb.block g (blk_lt h)).trans h
abbrev oV (y : S32) (A : Option Addr) (c : Nat) : Value := .agg #[.int .i64 y.f0, .string y.f1, .int .i64 y.f2.f0, .int .i64 y.f2.f1, .int .i64 y.f2.f2, .string y.f2.f3, .slice A y.f2.f4.length c]
abbrev oC (y : S32) (A : Option Addr) (c : Nat) : Obj := .cells #[.int .i64 y.f0, .string y.f1, .int .i64 y.f2.f0, .int .i64 y.f2.f1, .int .i64 y.f2.f2, .string y.f2.f3, .slice A y.f2.f4.length c] 32
theorem below_upd {N0 : Nat} {w w1 w2 : World} {g : Nat} {vN vB : Value} {l : List S53} {bs : List Int} {m : Int} (h : Sco N0 w1 g vN vB l bs m) (hb : Below N0 w w1) (u : Upd g w1 w2) : Below N0 w w2 :=
  hb.trans ⟨u.1.os, u.1.tape, u.1.output, u.1.size, fun k hk => u.1.block k (Nat.lt_of_lt_of_le hk h.size) (fun hf => by have := h.low hf; omega)⟩
set_option maxHeartbeats 8000000 in
/-- a block is opened. -/
theorem step_open {N0 : Nat} {g : Nat} {vN vB v : Value} {L : List S41} {bs : List Nat} {m : Int} (y : S32) (A : Option Addr) (c : Nat) (w : World) (h : Sco N0 w g vN vB (L.map nmOf) (bs.map (fun b : Nat => (b : Int))) m) (r : Ref N0 w g v L) (hi : Inv L bs) (hm : (L.length : Int) ≤ m) (hb : bs.length ≤ 1000) (hk : y.f0 = 0) :
    Calls Try.prog 8 #[.pointer (some ⟨g, 0, none⟩), v, .int .i64 bs.length, oV y A c] w (StepP N0 g w L bs m y) := by
  obtain ⟨Ar, cr, rfl⟩ := r.slice
  obtain ⟨w1, hw1, s1, r1, o1, b1⟩ : ∃ w1 : World, w.alloc (oC y A c) = w1 ∧ Sco N0 w1 g vN vB (L.map nmOf) (bs.map (fun b : Nat => (b : Int))) m ∧ Ref N0 w1 g (.slice Ar L.length cr) L ∧ Ov w1 w.heap.size y A c ∧ Below N0 w w1 :=
    ⟨_, rfl, h.below (below_alloc (Below.refl _ _) _), r.below h (below_alloc (Below.refl _ _) _), blk_new w _, Below.mono (below_alloc (Below.refl _ _) _) h.size⟩
  have HW1 := Lib.hid hw1; have S1 := Lib.hid s1; have R1 := Lib.hid r1; have O1 := Lib.hid o1; have B1 := Lib.hid b1
  obtain ⟨k0, _, _, _, _, _, _⟩ := o1.cells
  have p0 : (y.f0 == 0) = true := by rw [beq_iff_eq]; exact hk
  have HI := Lib.hid hi; have HM := Lib.hid hm; have HBS := Lib.hid hb
  clear h r hw1 s1 r1 o1 b1 hk hi hm hb
  go_enter Try.func8, Try.ntmps8
  go_upto_region 1 with (fail)
  rw [HW1.out]
  go_wp2_with fail
  refine (open_is w1 S1.out (by rw [List.length_map]; have := HBS.out; omega)).mono ?_
  rintro e w2 ⟨rfl, vB', s2, u2⟩
  have S2 := Lib.hid s2; have R2 := Lib.hid (R1.out.upd S1.out u2); have B2 := Lib.hid (below_upd S1.out B1.out u2)
  clear s2 u2
  go_wp2_with fail
  go_ret3
  refine ⟨_, L, bs ++ [L.length], vN, vB', ?_, inv_open HI.out, R2.out, ?_, Nat.le_succ _, by rw [List.length_append]; exact Nat.le_refl _, B2.out, fun z hz => .inl hz⟩
  · rw [← deep1 L.length HBS.out]; rfl
  · have s := S2.out
    rw [List.length_map] at s
    rw [List.map_append, show max m (L.length : Int) = m by have := HM.out; omega]
    exact s
theorem d_sub {n : Nat} (h : n ≤ 1000) : wrap64 ((n : Int) + 1 - 1) = (n : Int) := by unfold wrap64; omega
set_option maxHeartbeats 8000000 in
/-- the outermost block is not closed. -/
theorem step_close1 {N0 : Nat} {g : Nat} {vN vB v : Value} {L : List S41} {bs : List Nat} {m : Int} (y : S32) (A : Option Addr) (c : Nat) (w : World) (h : Sco N0 w g vN vB (L.map nmOf) (bs.map (fun b : Nat => (b : Int))) m) (r : Ref N0 w g v L) (hi : Inv L bs) (hm : (L.length : Int) ≤ m) (hb : bs.length = 1) (hk : y.f0 = 1) :
    Calls Try.prog 8 #[.pointer (some ⟨g, 0, none⟩), v, .int .i64 bs.length, oV y A c] w (StepP N0 g w L bs m y) := by
  obtain ⟨Ar, cr, rfl⟩ := r.slice
  obtain ⟨w1, hw1, s1, r1, o1, b1⟩ : ∃ w1 : World, w.alloc (oC y A c) = w1 ∧ Sco N0 w1 g vN vB (L.map nmOf) (bs.map (fun b : Nat => (b : Int))) m ∧ Ref N0 w1 g (.slice Ar L.length cr) L ∧ Ov w1 w.heap.size y A c ∧ Below N0 w w1 :=
    ⟨_, rfl, h.below (below_alloc (Below.refl _ _) _), r.below h (below_alloc (Below.refl _ _) _), blk_new w _, Below.mono (below_alloc (Below.refl _ _) _) h.size⟩
  have HW1 := Lib.hid hw1; have S1 := Lib.hid s1; have R1 := Lib.hid r1; have B1 := Lib.hid b1
  obtain ⟨k0, _, _, _, _, _, _⟩ := o1.cells
  have p0 : (y.f0 == 0) = false := by rw [beq_eq_false_iff_ne, hk]; decide
  have p1 : (y.f0 == 1) = true := by rw [beq_iff_eq]; exact hk
  have HI := Lib.hid hi; have HM := Lib.hid hm; have HBS := Lib.hid hb
  rw [hb]
  clear h r hw1 s1 r1 o1 b1 hk hi hm hb
  go_enter Try.func8, Try.ntmps8
  go_upto_region 1 with (fail)
  rw [HW1.out]
  go_wp2_with fail
  refine (close_no w1 S1.out (by rw [List.length_map, HBS.out]; decide)).mono ?_
  rintro e w2 ⟨rfl, b2⟩
  have S2 := Lib.hid (S1.out.below b2); have R2 := Lib.hid (R1.out.below S1.out b2); have B2 := Lib.hid (B1.out.trans (b2.mono S1.out.size))
  clear b2
  go_wp2_with fail
  go_ret3
  refine ⟨_, L, bs, vN, vB, ?_, HI.out, R2.out, ?_, Nat.le_succ _, Nat.le_succ _, B2.out, fun z hz => .inl hz⟩
  · rw [HBS.out]; rfl
  · rw [show max m (L.length : Int) = m by have := HM.out; omega]
    exact S2.out
set_option maxHeartbeats 8000000 in
/-- a block is closed. -/
theorem step_close2 {N0 : Nat} {g : Nat} {vN vB v : Value} {L : List S41} {bs : List Nat} {b : Nat} {m : Int} (y : S32) (A : Option Addr) (c : Nat) (w : World) (h : Sco N0 w g vN vB (L.map nmOf) ((bs ++ [b]).map (fun b : Nat => (b : Int))) m) (r : Ref N0 w g v L) (hi : Inv L (bs ++ [b])) (hm : (L.length : Int) ≤ m) (hb : 1 ≤ bs.length) (hb2 : bs.length ≤ 1000) (hL : L.length ≤ 1000) (hk : y.f0 = 1) :
    Calls Try.prog 8 #[.pointer (some ⟨g, 0, none⟩), v, .int .i64 ((bs ++ [b]).length : Nat), oV y A c] w (StepP N0 g w L (bs ++ [b]) m y) := by
  obtain ⟨Ar, cr, rfl⟩ := r.slice
  obtain ⟨w1, hw1, s1, r1, o1, b1⟩ : ∃ w1 : World, w.alloc (oC y A c) = w1 ∧ Sco N0 w1 g vN vB (L.map nmOf) ((bs ++ [b]).map (fun b : Nat => (b : Int))) m ∧ Ref N0 w1 g (.slice Ar L.length cr) L ∧ Ov w1 w.heap.size y A c ∧ Below N0 w w1 :=
    ⟨_, rfl, h.below (below_alloc (Below.refl _ _) _), r.below h (below_alloc (Below.refl _ _) _), blk_new w _, Below.mono (below_alloc (Below.refl _ _) _) h.size⟩
  have HW1 := Lib.hid hw1; have S1 := Lib.hid s1; have R1 := Lib.hid r1; have B1 := Lib.hid b1
  obtain ⟨k0, _, _, _, _, _, _⟩ := o1.cells
  have p0 : (y.f0 == 0) = false := by rw [beq_eq_false_iff_ne, hk]; decide
  have p1 : (y.f0 == 1) = true := by rw [beq_iff_eq]; exact hk
  obtain ⟨n, hn⟩ : ∃ n, bs.length = n := ⟨_, rfl⟩
  have hn1 : (bs ++ [b]).length = n + 1 := by rw [List.length_append, hn]; rfl
  rw [hn1]
  have p2 : (((n + 1 : Nat) : Int) == 1) = false := by rw [beq_eq_false_iff_ne]; omega
  have p3 : ((n : Int) + 1 == 1) = false := by rw [beq_eq_false_iff_ne]; omega
  have p4 : ((n : Int) == 0) = false := by rw [beq_eq_false_iff_ne]; omega
  have e1 := d_sub (n := n) (by omega)
  have e1c : wrap64 (n : Int) = (n : Int) := w_nat (n := n) (by omega)
  have HI := Lib.hid hi; have HM := Lib.hid hm; have HN := Lib.hid hn; have HN1 := Lib.hid hn1; have HB1 := Lib.hid hb; have HB2 := Lib.hid hb2; have HLL := Lib.hid hL
  clear h r hw1 s1 r1 o1 b1 hk hi hm hb hb2 hL hn hn1
  go_enter Try.func8, Try.ntmps8
  go_upto_region 1 with (fail)
  rw [HW1.out]
  go_wp2_with fail
  obtain ⟨i1, i2, i3⟩ := inv_close HI.out HB1.out
  have I2 := Lib.hid i2; have I3 := Lib.hid i3; have I1 := Lib.hid i1
  clear i1 i2 i3
  refine (close_yes (bs := bs.map (fun b : Nat => (b : Int))) b w1 (by have h := S1.out; rw [List.map_append] at h; exact h) (by rw [List.length_map]; exact HB1.out) (by rw [List.length_map]; exact I1.out) (by rw [List.length_map]; have := HB2.out; omega)).mono ?_
  rintro e w2 ⟨rfl, vN', vB', s2, u2⟩
  have S2 := Lib.hid s2; have R2 := Lib.hid (R1.out.upd S1.out u2); have B2 := Lib.hid (below_upd S1.out B1.out u2)
  clear s2 u2
  have RC := Lib.hid (refclose_is L ((bs.length + 1 : Nat) : Int) HLL.out)
  rw [I2.out, HN.out] at RC
  obtain ⟨Q, q1, q2, q3⟩ := R2.out
  have HQ1 := Lib.hid q1; have HQ2 := Lib.hid q2; have HQ3 := Lib.hid q3
  have CC := Lib.hid (PA.marlineref19_Close.calls _ (fun k => Q k ∧ k < w2.heap.size) Ar cr L _ _ w2 (Kd.V_mk (Kd.N_reads' q3).2.1 (Kd.F_bound (Kd.N_F q3))) RC.out)
  clear q1 q2 q3
  go_wp2_with fail
  refine CC.out.mono ?_
  rintro e w3 ⟨v3, rfl, n3, b3⟩
  obtain ⟨A3, c3, rfl⟩ := Kd.N_slice n3
  have S3 := Lib.hid (S2.out.below b3); have B3 := Lib.hid (B2.out.trans (b3.mono S2.out.size))
  have R3 : Hid (Ref N0 w3 g (.slice A3 (L.take b).length c3) (L.take b)) := Lib.hid ⟨fun k => (Q k ∧ k < w2.heap.size) ∨ w2.heap.size ≤ k, fun k hk => .inl ⟨HQ1.out k hk, Nat.lt_of_lt_of_le hk S2.out.size⟩, fun k hk hf => by
    have hf2 : Foot w2 g k := (Foot.same (b3.block g S2.out.lt)).1 hf
    have hlt := S2.out.foot_lt hf2
    rcases hk with hk | hk
    · exact HQ2.out k hk.1 hf2
    · omega, Kd.N_lower n3 S2.out.size⟩
  clear n3 b3 CC
  go_wp2_with fail
  go_ret3
  refine ⟨_, L.take b, bs, vN', vB', ?_, I3.out, R3.out, ?_, by rw [List.length_take]; omega, by rw [List.length_append]; simp; omega, B3.out, fun z hz => .inl (List.mem_of_mem_take hz)⟩
  · rw [HN.out]
    simp only [List.length_take]
    first | rfl | (rw [e1c]; rfl)
  · rw [show max m ((L.take b).length : Int) = m by have := HM.out; rw [List.length_take]; omega, List.map_take]
    exact S3.out
set_option maxHeartbeats 8000000 in
/-- a name that is there. -/
theorem step_put1 {N0 : Nat} {g : Nat} {vN vB v : Value} {L : List S41} {bs : List Nat} {m : Int} (y : S32) (A : Option Addr) (c : Nat) (w : World) (h : Sco N0 w g vN vB (L.map nmOf) (bs.map (fun b : Nat => (b : Int))) m) (r : Ref N0 w g v L) (hi : Inv L bs) (hm : (L.length : Int) ≤ m) (hL : L.length ≤ 1000) (hk : y.f0 ≠ 0 ∧ y.f0 ≠ 1) (hc : y.f2.f4.length ≤ c) (hF : Kd.F k30 w (fun k => k < N0) A y.f2.f4.length y.f2.f4) (i : Nat) (hx : idx y.f1 (L.map nmOf) 0 = some i) :
    Calls Try.prog 8 #[.pointer (some ⟨g, 0, none⟩), v, .int .i64 bs.length, oV y A c] w (StepP N0 g w L bs m y) := by
  obtain ⟨Ar, cr, rfl⟩ := r.slice
  obtain ⟨w1, hw1, s1, r1, o1, b1, f1⟩ : ∃ w1 : World, w.alloc (oC y A c) = w1 ∧ Sco N0 w1 g vN vB (L.map nmOf) (bs.map (fun b : Nat => (b : Int))) m ∧ Ref N0 w1 g (.slice Ar L.length cr) L ∧ Ov w1 w.heap.size y A c ∧ Below N0 w w1 ∧ Kd.F k30 w1 (fun k => k < N0) A y.f2.f4.length y.f2.f4 :=
    ⟨_, rfl, h.below (below_alloc (Below.refl _ _) _), r.below h (below_alloc (Below.refl _ _) _), blk_new w _, Below.mono (below_alloc (Below.refl _ _) _) h.size, Kd.F_below hF (below_alloc (Below.refl _ _) _)⟩
  obtain ⟨go, hgo⟩ : ∃ go, w.heap.size = go := ⟨_, rfl⟩
  rw [hgo] at o1
  have HW1 := Lib.hid hw1; have S1 := Lib.hid s1; have R1 := Lib.hid r1; have O1 := Lib.hid o1; have B1 := Lib.hid b1; have F1 := Lib.hid f1; have HGO := Lib.hid hgo
  obtain ⟨k0, k1, k2, k3, k4, k5, k6⟩ := o1.cells
  have p0 : (y.f0 == 0) = false := by rw [beq_eq_false_iff_ne]; exact hk.1
  have p1 : (y.f0 == 1) = false := by rw [beq_eq_false_iff_ne]; exact hk.2
  have HI := Lib.hid hi; have HM := Lib.hid hm; have HLL := Lib.hid hL; have HC := Lib.hid hc
  have RG := Lib.hid (refget_is L y.f1 hL)
  have hlm : (L.map nmOf).length ≤ 1000000 := by rw [List.length_map]; omega
  rw [hx] at RG
  have PN := Lib.hid (put_no y.f1 y.f2 A c w1 s1 (Nat.le_trans hlm (by decide)) i hx)
  have p2 : decide (0 ≤ atOf (some i)) = true := decide_eq_true (Int.natCast_nonneg i)
  have p3 : (0 : Int) ≤ (i : Int) := Int.natCast_nonneg i
  clear h r hw1 s1 r1 o1 b1 f1 hk hi hm hL hc hF hgo hx hlm
  go_enter Try.func8, Try.ntmps8
  go_upto_region 1 with (fail)
  rw [HW1.out, HGO.out]
  go_wp2_with fail
  refine PN.out.mono ?_
  rintro e w2 ⟨rfl, b2⟩
  have S2 := Lib.hid (S1.out.below b2); have R2 := Lib.hid (R1.out.below S1.out b2); have B2 := Lib.hid (B1.out.trans (b2.mono S1.out.size)); have O2 := Lib.hid (O1.out.below b2)
  obtain ⟨k0, k1, k2, k3, k4, k5, k6⟩ := O2.out.cells
  obtain ⟨_, hc2, hC2⟩ := R2.out.reads
  have GC := Lib.hid (PA.marlineref19_Get.calls _ Ar cr L y.f1 _ w2 hC2 hc2 RG.out)
  clear b2 PN hc2 hC2
  go_wp2_with fail
  refine GC.out.mono ?_
  rintro e w3 ⟨rfl, d3⟩
  have S3 := Lib.hid (S2.out.below d3.below); have R3 := Lib.hid (R2.out.below S2.out d3.below); have B3 := Lib.hid (B2.out.trans (d3.below.mono S2.out.size))
  have ea : atOf (some i) = (i : Int) := rfl
  rw [ea]
  clear d3 GC ea p2
  go_wp2_with fail
  go_ret3
  refine ⟨_, L, bs, vN, vB, rfl, HI.out, R3.out, ?_, Nat.le_succ _, Nat.le_succ _, B3.out, fun z hz => .inl hz⟩
  rw [show max m (L.length : Int) = m by have := HM.out; omega]
  exact S3.out
set_option maxHeartbeats 8000000 in
/-- a new name. -/
theorem step_put2 {N0 : Nat} {g : Nat} {vN vB v : Value} {L : List S41} {bs : List Nat} {m : Int} (y : S32) (A : Option Addr) (c : Nat) (w : World) (h : Sco N0 w g vN vB (L.map nmOf) (bs.map (fun b : Nat => (b : Int))) m) (r : Ref N0 w g v L) (hi : Inv L bs) (hm : (L.length : Int) ≤ m) (hL : L.length ≤ 1000) (hk : y.f0 ≠ 0 ∧ y.f0 ≠ 1) (hc : y.f2.f4.length ≤ c) (hF : Kd.F k30 w (fun k => k < N0) A y.f2.f4.length y.f2.f4) (hx : idx y.f1 (L.map nmOf) 0 = none) :
    Calls Try.prog 8 #[.pointer (some ⟨g, 0, none⟩), v, .int .i64 bs.length, oV y A c] w (StepP N0 g w L bs m y) := by
  obtain ⟨Ar, cr, rfl⟩ := r.slice
  obtain ⟨w1, hw1, s1, r1, o1, b1, f1⟩ : ∃ w1 : World, w.alloc (oC y A c) = w1 ∧ Sco N0 w1 g vN vB (L.map nmOf) (bs.map (fun b : Nat => (b : Int))) m ∧ Ref N0 w1 g (.slice Ar L.length cr) L ∧ Ov w1 w.heap.size y A c ∧ Below N0 w w1 ∧ Kd.F k30 w1 (fun k => k < N0) A y.f2.f4.length y.f2.f4 :=
    ⟨_, rfl, h.below (below_alloc (Below.refl _ _) _), r.below h (below_alloc (Below.refl _ _) _), blk_new w _, Below.mono (below_alloc (Below.refl _ _) _) h.size, Kd.F_below hF (below_alloc (Below.refl _ _) _)⟩
  obtain ⟨go, hgo⟩ : ∃ go, w.heap.size = go := ⟨_, rfl⟩
  rw [hgo] at o1
  have HW1 := Lib.hid hw1; have S1 := Lib.hid s1; have R1 := Lib.hid r1; have O1 := Lib.hid o1; have B1 := Lib.hid b1; have F1 := Lib.hid f1; have HGO := Lib.hid hgo
  obtain ⟨k0, k1, k2, k3, k4, k5, k6⟩ := o1.cells
  have p0 : (y.f0 == 0) = false := by rw [beq_eq_false_iff_ne]; exact hk.1
  have p1 : (y.f0 == 1) = false := by rw [beq_eq_false_iff_ne]; exact hk.2
  have HI := Lib.hid hi; have HM := Lib.hid hm; have HLL := Lib.hid hL; have HC := Lib.hid hc
  have RG := Lib.hid (refget_is L y.f1 hL)
  have hlm : (L.map nmOf).length ≤ 1000000 := by rw [List.length_map]; omega
  rw [hx] at RG
  have PN := Lib.hid (put_yes y.f1 y.f2 A c w1 s1 hlm hx hc f1)
  rw [List.length_map] at PN
  clear h r hw1 s1 r1 o1 b1 f1 hk hi hm hL hc hF hgo hx hlm
  go_enter Try.func8, Try.ntmps8
  go_upto_region 1 with (fail)
  rw [HW1.out, HGO.out]
  go_wp2_with fail
  refine PN.out.mono ?_
  rintro e w2 ⟨rfl, vN', s2, u2⟩
  have S2 := Lib.hid s2; have R2 := Lib.hid (R1.out.upd S1.out u2); have B2 := Lib.hid (below_upd S1.out B1.out u2)
  have O2 := Lib.hid (show Ov w2 go y A c from (u2.1.block go (blk_lt O1.out) (fun hf => by
    rcases S1.out.foot.1 hf with h1 | h1 | h1
    · have hb := S1.out.blk
      rw [← h1] at hb
      have hh := Option.some.inj ((show w1.heap[go]? = _ from O1.out).symm.trans hb)
      injection hh with _ ht _
      exact absurd ht (by decide)
    · exact Kd.N_ne S1.out.N O1.out (by decide) h1.symm
    · exact Kd.R_ne S1.out.B O1.out (by decide) h1.symm)).trans O1.out)
  have F2 := Lib.hid (Kd.F_step F1.out (fun k hk hlt => u2.1.block k hlt (fun hf => by have := S1.out.low hf; omega)))
  obtain ⟨k0, k1, k2, k3, k4, k5, k6⟩ := O2.out.cells
  obtain ⟨_, hc2, hC2⟩ := R2.out.reads
  have GC := Lib.hid (PA.marlineref19_Get.calls _ Ar cr L y.f1 _ w2 hC2 hc2 RG.out)
  clear s2 u2 PN hc2 hC2
  go_wp2_with fail
  refine GC.out.mono ?_
  rintro e w3 ⟨rfl, d3⟩
  have S3 := Lib.hid (S2.out.below d3.below); have R3 := Lib.hid (R2.out.below S2.out d3.below); have B3 := Lib.hid (B2.out.trans (d3.below.mono S2.out.size)); have O3 := Lib.hid (O2.out.below d3.below); have F3 := Lib.hid (Kd.F_below F2.out d3.below)
  obtain ⟨k0, k1, k2, k3, k4, k5, k6⟩ := O3.out.cells
  have ea : atOf none = -1 := rfl
  rw [ea]
  clear d3 GC ea
  obtain ⟨Q, q1, q2, q3⟩ := R3.out
  have HQ1 := Lib.hid q1; have HQ2 := Lib.hid q2; have HQ3 := Lib.hid q3
  have HNEW := Lib.hid (show Kd.FK k41 w3 (fun k => k < N0) (⟨y.f1, y.f2, (bs.length : Int)⟩ : S41) [.string y.f1, .int .i64 y.f2.f0, .int .i64 y.f2.f1, .int .i64 y.f2.f2, .string y.f2.f3, .slice A y.f2.f4.length c, .int .i64 bs.length] from k41_mkF w3 _ ⟨y.f1, y.f2, (bs.length : Int)⟩ HC.out F3.out)
  have HSZ := Lib.hid (show N0 ≤ w3.heap.size from S3.out.size)
  have HL88 := Lib.hid (show (L.length + 1) * 88 ≤ 140737488355328 by have := HLL.out; omega)
  clear q1 q2 q3
  go_wp2_with ((with_reducible refine gate_builtin (b := .append) (xs := #[.tmp 60, .tmp 67]) rfl ?_); at_builtin; refine Kd.N_append k41 (w0 := w) N0 rfl (.tmp 60) (.tmp 67) 26 41 (.agg #[.string ⟨#[]⟩, .int .i64 0, .int .i64 0, .int .i64 0, .string ⟨#[]⟩, .slice none 0 0, .int .i64 0]) 88 rfl Try.underlying26 PA.info41 rfl (by decide) (by decide) (.slice Ar L.length cr) L (⟨y.f1, y.f2, (bs.length : Int)⟩ : S41) [.string y.f1, .int .i64 y.f2.f0, .int .i64 y.f2.f1, .int .i64 y.f2.f2, .string y.f2.f3, .slice A y.f2.f4.length c, .int .i64 bs.length] (fun k => Q k ∨ w3.heap.size ≤ k) (fun k => k < N0) rfl rfl HNEW.out (fun k hk => ⟨.inl (HQ1.out k hk), fun he => by have := Kd.N_base HQ3.out k he.symm; omega⟩) (fun k hk => .inr hk) (Kd.N_mono HQ3.out (fun k hk => .inl hk)) B3.out HSZ.out HL88.out ?_; intro v5 w5 ho hb5 hg5 hat; have HO := Lib.hid ho; have HB5 := Lib.hid hb5; have HG5 := Lib.hid hg5; clear ho hb5 hg5 hat)
  go_ret3
  have own : ∀ k, Foot w3 g k → some k ≠ (Value.slice Ar L.length cr).ownBlock := fun k hf he => HQ2.out k (HQ3.out.1 k he.symm) hf
  have S5 := S3.out.step (W' := w5) (fun k hk hlt => HG5.out.block k hlt (fun he => by
    rcases hk with h1 | h1 | h1 | h1
    · have := Kd.N_base HQ3.out k he.symm; omega
    · exact own k (S3.out.foot.2 (.inl h1)) he
    · exact own k (S3.out.foot.2 (.inr (.inl h1))) he
    · exact own k (S3.out.foot.2 (.inr (.inr h1))) he))
  refine ⟨v5, L ++ [⟨y.f1, y.f2, (bs.length : Int)⟩], bs, vN', vB, ?_, inv_put HI.out _ _, ⟨fun k => Q k ∨ w3.heap.size ≤ k, fun k hk => .inl (HQ1.out k hk), fun k hk hf => ?_, HO.out⟩, ?_, by rw [List.length_append]; exact Nat.le_refl _, Nat.le_succ _, HB5.out, fun z hz => by
    rcases List.mem_append.1 hz with hz | hz
    · exact .inl hz
    · exact .inr (by rw [List.mem_singleton.1 hz])⟩
  · rfl
  · have hf3 : Foot w3 g k := (Foot.same (HG5.out.block g S3.out.lt (own g (Foot.self _ _)))).1 hf
    have := S3.out.foot_lt hf3
    rcases hk with hk | hk
    · exact HQ2.out k hk hf3
    · omega
  · rw [List.map_append, List.length_append]
    exact S5
/-- one call of both. -/
theorem step_calls {N0 : Nat} {g : Nat} {vN vB v : Value} {L : List S41} {bs : List Nat} {m : Int} (y : S32) (A : Option Addr) (c : Nat) (w : World) (h : Sco N0 w g vN vB (L.map nmOf) (bs.map (fun b : Nat => (b : Int))) m) (r : Ref N0 w g v L) (hi : Inv L bs) (hm : (L.length : Int) ≤ m) (hL : L.length ≤ 1000) (hb : bs.length ≤ 1000) (hc : y.f2.f4.length ≤ c) (hF : Kd.F k30 w (fun k => k < N0) A y.f2.f4.length y.f2.f4) :
    Calls Try.prog 8 #[.pointer (some ⟨g, 0, none⟩), v, .int .i64 bs.length, oV y A c] w (StepP N0 g w L bs m y) := by
  by_cases h0 : y.f0 = 0
  · exact step_open y A c w h r hi hm hb h0
  · by_cases h1 : y.f0 = 1
    · by_cases h2 : bs.length = 1
      · exact step_close1 y A c w h r hi hm h2 h1
      · have hp := hi.pos
        have hne : bs ≠ [] := fun e => by rw [e] at hp; exact absurd hp (by decide)
        obtain ⟨bs0, b, rfl⟩ : ∃ bs0 b, bs = bs0 ++ [b] := ⟨bs.dropLast, bs.getLast hne, (List.dropLast_concat_getLast hne).symm⟩
        rw [List.length_append] at h2 hb
        simp only [List.length_cons, List.length_nil] at h2 hb
        exact step_close2 y A c w h r hi hm (by omega) (by omega) hL h1
    · cases hx : idx y.f1 (L.map nmOf) 0 with
      | some i => exact step_put1 y A c w h r hi hm hL ⟨h0, h1⟩ hc hF i hx
      | none => exact step_put2 y A c w h r hi hm hL ⟨h0, h1⟩ hc hF hx
end Go.Proofs.Ytlpfgeeibbfibaa.E
