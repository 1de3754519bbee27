/- Marline, layer 41: an entry in a variable; the entry of a word. Conditions: as each says. -/
import Derived.Test.YtfofpammnfcmiaaDoorScp
import Derived.Test.YtfofpammnfcmiaaDoorSh3
import Derived.Test.YtfofpammnfcmiaaDoorSh4
namespace Go.Proofs.YtfofpammnfcmiaaDoor.E
open Go.RowKit Go.Proofs.YtfofpammnfcmiaaDoorW.PrintWords Go.Proofs.YtfofpammnfcmiaaDoorW.PrintLast Go.Proofs.YtfofpammnfcmiaaDoorW.PrintMore Go.Proofs.YtfofpammnfcmiaaDoor.Kinds Go.Proofs.YtfofpammnfcmiaaDoor.Obj Go.Proofs.YtfofpammnfcmiaaDoor.Sp
set_option linter.unusedVariables false
set_option linter.unusedSimpArgs false

/-- what the library wants of memory. -/
structure Lw (w : World) : Prop where
  p : Pow w
  e : Errs w
  m : ∃ m, w.cell? ⟨2, 0, none⟩ = some (.int .i64 m)
theorem Lw.below {w w' : World} (h : Lw w) (hb : Below w.heap.size w w') : Lw w' := by
  obtain ⟨m, hm⟩ := h.m
  exact ⟨h.p.below hb, h.e.below hb, m, pw_cell_below hb hm⟩
def tk (x : S32) : Pk := (x.f0, x.f1, x.f2)
def mk (p : Pk) : S32 := ⟨p.1, p.2.1, p.2.2⟩
/-- an entry in a variable of its own. -/
def Pv (w : World) (g : Nat) (x : S32) : Prop := w.heap[g]? = some (.cells #[.int .i64 x.f0, .int .i64 x.f1, .bool x.f2] 32 (0, 0))
theorem Pv.cells {w : World} {g : Nat} {x : S32} (h : Pv w g x) : w.cell? ⟨g, 0, none⟩ = some (.int .i64 x.f0) ∧ w.cell? ⟨g, 1, none⟩ = some (.int .i64 x.f1) ∧ w.cell? ⟨g, 2, none⟩ = some (.bool x.f2) ∧ w.frozen? ⟨g, 0, none⟩ = false ∧ w.frozen? ⟨g, 1, none⟩ = false ∧ w.frozen? ⟨g, 2, none⟩ = false :=
  ⟨(blk_cell h 0).trans rfl, (blk_cell h 1).trans rfl, (blk_cell h 2).trans rfl, blk_frozen h 0, blk_frozen h 1, blk_frozen h 2⟩
theorem Pv.set {w : World} {g : Nat} {x : S32} (h : Pv w g x) (y : S32) :
    Pv (((w.setCell ⟨g, 0, none⟩ (.int .i64 y.f0)).setCell ⟨g, 1, none⟩ (.int .i64 y.f1)).setCell ⟨g, 2, none⟩ (.bool y.f2)) g y := by
  have h1 := blk_set (blk_set (blk_set h 0 (.int .i64 y.f0)) 1 (.int .i64 y.f1)) 2 (.bool y.f2)
  unfold Pv
  simpa using h1
theorem Pv.set1 {w : World} {g : Nat} {x : S32} (h : Pv w g x) (n : Int) : Pv (w.setCell ⟨g, 1, none⟩ (.int .i64 n)) g ⟨x.f0, n, x.f2⟩ := by
  have h1 := blk_set h 1 (.int .i64 n)
  unfold Pv
  simpa using h1
theorem Pv.far {w : World} {g : Nat} {x : S32} (h : Pv w g x) {p : Addr} (hp : g ≠ p.block) (u : Value) : Pv (w.setCell p u) g x := blk_far h hp u
theorem Pv.alloc {w : World} {g : Nat} {x : S32} (h : Pv w g x) (o : Obj) : Pv (w.alloc o) g x := blk_alloc h o
theorem Pv.below {w w' : World} {g : Nat} {x : S32} (h : Pv w g x) (hb : Below w.heap.size w w') : Pv w' g x := blk_below h hb
theorem below3 {w W : World} {g : Nat} {u0 u1 u2 : Value} (h : Below w.heap.size w W) (hg : w.heap.size ≤ g) : Below w.heap.size w (((W.setCell ⟨g, 0, none⟩ u0).setCell ⟨g, 1, none⟩ u1).setCell ⟨g, 2, none⟩ u2) := below_set (below_set (below_set h hg) hg) hg
def ev (x : S32) : Value := .agg #[.int .i64 x.f0, .int .i64 x.f1, .bool x.f2]
theorem cut_len (l s : List UInt8) : (Lib.cut l s).1.length ≤ l.length ∧ (Lib.cut l s).2.1.length ≤ l.length := by
  unfold Lib.cut
  split <;> simp <;> omega
set_option maxHeartbeats 4000000 in
set_option maxRecDepth 100000 in
theorem entry_calls (s : ByteArray) (w : World) (hs : s.size ≤ 4000000000) (h : Lw w) :
    Calls Tryd.prog 60 #[.string s] w fun e w' => e = .returned (.tuple #[ev (mk (entryS s.data.toList).1), .bool (entryS s.data.toList).2]) ∧ Below w.heap.size w w' := by
  have hu32 := Tryd.underlying32
  obtain ⟨g, hg⟩ : ∃ g, w.heap.size = g := ⟨_, rfl⟩
  have G : Hid (∃ w1 : World, w.alloc (.cells #[.int .i64 0, .int .i64 0, .bool false] 32) = w1 ∧ Pv w1 g z32 ∧ Below w.heap.size w w1) :=
    Lib.hid ⟨_, rfl, by rw [← hg]; exact blk_new _ _, below_alloc (Below.refl _ _) _⟩
  obtain ⟨l, hl⟩ : ∃ l, s.data.toList = l := ⟨_, rfl⟩
  have hll : l.length ≤ 4000000000 := by rw [← hl]; exact hs
  obtain ⟨t, ht⟩ : ∃ t, Lib.trimSuffix l [103] = t := ⟨_, rfl⟩
  obtain ⟨gc, hgc⟩ : ∃ b, Lib.hasSuffix l [103] = b := ⟨_, rfl⟩
  have htl : t.length ≤ 4000000000 := by have := Lib.trimSuffix_le l [103]; rw [ht] at this; omega
  obtain ⟨a, b, two, hc⟩ : ∃ a b two, Lib.cut t [47] = (a, b, two) := ⟨_, _, _, rfl⟩
  have hab := cut_len t [47]
  rw [hc] at hab
  obtain ⟨n, bad, hn⟩ : ∃ n bad, signedS a = (n, bad) := ⟨_, _, rfl⟩
  obtain ⟨k, worse, hk⟩ : ∃ n bad, signedS b = (n, bad) := ⟨_, _, rfl⟩
  have he : entryS l = ((n, k, gc), two && (bad == 0 && worse == 0)) := by
    unfold entryS; rw [ht, hgc, hc]; simp only; rw [hn, hk]
  rw [hl, he]
  have C1 := Lib.hid (fun w => Tryd.strings_CutSuffix s ⟨#[103]⟩ w (by omega))
  rw [hl] at C1
  have e1 : (⟨#[103]⟩ : ByteArray).data.toList = [103] := rfl
  rw [e1, ht, hgc] at C1
  have C2 := Lib.hid (fun m w hm => Tryd.strings_Cut ⟨t.toArray⟩ ⟨#[47]⟩ m w (by show t.toArray.size < _; simp; omega) hm)
  have e2 : (⟨t.toArray⟩ : ByteArray).data.toList = t := by simp
  have e3 : (⟨#[47]⟩ : ByteArray).data.toList = [47] := rfl
  rw [e2, e3, hc] at C2
  have C3 := Lib.hid (fun w h1 h2 => signed_calls ⟨a.toArray⟩ w (by show a.toArray.size ≤ _; simp; simp at hab; omega) h1 h2)
  have C4 := Lib.hid (fun w h1 h2 => signed_calls ⟨b.toArray⟩ w (by show b.toArray.size ≤ _; simp; simp at hab; omega) h1 h2)
  have e4 : (⟨a.toArray⟩ : ByteArray).data.toList = a := by simp
  have e5 : (⟨b.toArray⟩ : ByteArray).data.toList = b := by simp
  rw [e4, hn] at C3
  rw [e5, hk] at C4
  have wg : w.heap.size ≤ g := by omega
  have WG := Lib.hid wg; have E1 := Lib.hid hg; have HL := Lib.hid h
  clear wg hg h hs hl hll ht hgc htl hc hab hn hk he e1 e2 e3 e4 e5
  go_enter Tryd.func60, Tryd.ntmps60
  go_upto_region 1 with (fail)
  rw [E1.out]
  obtain ⟨w1, hw1, v1, b1⟩ := G.out
  rw [hw1]
  have V1 := Lib.hid v1; have B1 := Lib.hid b1
  clear G v1 b1 hw1
  go_wp2_with fail
  refine (C1.out w1).mono ?_
  rintro e w2 ⟨rfl, rfl⟩
  clear C1
  go_wp2_with fail
  obtain ⟨m, hm⟩ := (HL.out.below B1.out).m
  refine (C2.out m w2 hm).mono ?_
  rintro e w3 ⟨rfl, nq, rfl⟩
  clear C2 hm
  have V2 : Hid (Pv (w2.drewN nq) g z32) := Lib.hid (blk_drewN V1.out nq)
  have B2 : Hid (Below w.heap.size w (w2.drewN nq)) := Lib.hid (pw_below_drewN B1.out nq)
  clear V1 B1
  generalize w2.drewN nq = w4 at V2 B2 ⊢
  go_wp2_with fail
  refine (C3.out w4 (HL.out.below B2.out).p (HL.out.below B2.out).e).mono ?_
  rintro e w5 ⟨rfl, b5⟩
  have V3 := Lib.hid (V2.out.below b5)
  have B3 := Lib.hid (B2.out.trans (b5.mono B2.out.size))
  clear b5 V2 B2 C3
  go_wp2_with fail
  refine (C4.out w5 (HL.out.below B3.out).p (HL.out.below B3.out).e).mono ?_
  rintro e w6 ⟨rfl, b6⟩
  have V4 := Lib.hid (V3.out.below b6)
  have B4 := Lib.hid (B3.out.trans (b6.mono B3.out.size))
  clear b6 V3 B3 C4
  obtain ⟨m0, m1, m2, t0, t1, t2⟩ := V4.out.cells
  have hcase : two = false ∨ (two = true ∧ ¬ bad = 0) ∨ (two = true ∧ bad = 0) := by
    cases two
    · exact .inl rfl
    · by_cases h : bad = 0
      · exact .inr (.inr ⟨rfl, h⟩)
      · exact .inr (.inl ⟨rfl, h⟩)
  rcases hcase with rfl | ⟨rfl, hq⟩ | ⟨rfl, rfl⟩
  · go_wp2_with fail
    refine bodyPost_ret (results_ct rfl _ _ g 32 #[.int .i64 n, .int .i64 k, .bool gc] (0, 0) _ rfl (V4.out.set ⟨n, k, gc⟩) Tryd.underlying32 rfl (by kernel_rfl)) rfl ?_
    exact ⟨rfl, below3 B4.out WG.out⟩
  · have hq2 : (bad == 0) = false := beq_eq_false_iff_ne.2 hq
    clear hq
    have HQ := Lib.hid hq2
    go_wp2_with fail
    refine bodyPost_ret (results_ct rfl _ _ g 32 #[.int .i64 n, .int .i64 k, .bool gc] (0, 0) _ rfl (V4.out.set ⟨n, k, gc⟩) Tryd.underlying32 rfl (by kernel_rfl)) rfl ?_
    exact ⟨by rw [HQ.out]; rfl, below3 B4.out WG.out⟩
  · go_wp2_with fail
    refine bodyPost_ret (results_ct rfl _ _ g 32 #[.int .i64 n, .int .i64 k, .bool gc] (0, 0) _ rfl (V4.out.set ⟨n, k, gc⟩) Tryd.underlying32 rfl (by kernel_rfl)) rfl ?_
    exact ⟨rfl, below3 B4.out WG.out⟩
end Go.Proofs.YtfofpammnfcmiaaDoor.E
