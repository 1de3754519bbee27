/- Marline, layer 19: a name put into a scope; a block closed. Conditions: as each says. -/
import Derived.Test.YtlpfgeeibbfibaaSg
namespace Go.Proofs.Ytlpfgeeibbfibaa.E
open Go.RowKit Go.Proofs.YtlpfgeeibbfibaaW.PrintWords Go.Proofs.YtlpfgeeibbfibaaW.PrintLast Go.Proofs.YtlpfgeeibbfibaaW.PrintMore Go.Proofs.Ytlpfgeeibbfibaa.Kinds Go.Proofs.Ytlpfgeeibbfibaa.Obj
set_option linter.unusedVariables false
set_option linter.unusedSimpArgs false
set_option maxRecDepth 100000
theorem w_nat {n : Nat} (h : n ≤ 1000001) : wrap64 (n : Int) = (n : Int) := by unfold wrap64; omega
theorem w_one {n : Nat} (h : n ≤ 1000001) : wrap64 ((n : Int) + 1 - 1) = (n : Int) := by unfold wrap64; omega
theorem grown_refl (w : World) (r : Option Nat) : w.grownBy w r := ⟨rfl, rfl, rfl, Nat.le_refl _, fun _ _ _ => rfl⟩
theorem own_cut (A : Option Addr) (a b c : Nat) : (Value.slice A a c).ownBlock = (Value.slice A b c).ownBlock := by cases A <;> rfl
theorem upd_below {w w' : World} {g : Nat} (hg : g < w.heap.size) (hb : Below w.heap.size w w') : Upd g w w' := ⟨Ch.of_below hb, fun k hk => .inl ((Foot.same (hb.block g hg)).1 hk)⟩
set_option maxHeartbeats 8000000 in
theorem close_no {N0 : Nat} {g : Nat} {vN vB : Value} {l : List S53} {bs : List Int} {m : Int} (w : World) (h : Sco N0 w g vN vB l bs m) (hb : bs.length < 2) :
    Calls Try.prog 17 #[.pointer (some ⟨g, 0, none⟩)] w fun e w' => e = .returned (.bool false) ∧ Below w.heap.size w w' := by
  have D := Lib.hid (deep_is w h)
  have p0 : decide ((bs.length : Int) < 2) = true := decide_eq_true (by omega)
  clear h hb
  go_enter Try.func17, Try.ntmps17
  go_wp2_with fail
  refine D.out.mono ?_
  rintro e w2 ⟨rfl, hb⟩
  have HB := Lib.hid hb
  clear hb D
  go_wp2_with fail
  go_ret
  exact ⟨rfl, HB.out⟩
set_option maxHeartbeats 8000000 in
theorem close_yes {N0 : Nat} {g : Nat} {vN vB : Value} {l : List S53} {bs : List Int} {m : Int} (b : Nat) (w : World) (h : Sco N0 w g vN vB l (bs ++ [(b : Int)]) m) (hb : 1 ≤ bs.length) (hbl : b ≤ l.length) (hsz : bs.length ≤ 1000000) :
    Calls Try.prog 17 #[.pointer (some ⟨g, 0, none⟩)] w fun e w' => e = .returned (.bool true) ∧ ∃ vN' vB', Sco N0 w' g vN' vB' (l.take b) bs m ∧ Upd g w w' := by
  have D := Lib.hid (deep_is w h)
  have H := Lib.hid h
  obtain ⟨n, hn⟩ : ∃ n, bs.length = n := ⟨_, rfl⟩
  have hn1 : (bs ++ [(b : Int)]).length = n + 1 := by rw [List.length_append, hn]; rfl
  rw [hn1] at D
  have p0 : decide (((n + 1 : Nat) : Int) < 2) = false := decide_eq_false (by omega)
  have p0b : decide ((n : Int) + 1 < 2) = false := decide_eq_false (by omega)
  have HN := Lib.hid hn; have HN1 := Lib.hid hn1; have HBL := Lib.hid hbl; have HSZ := Lib.hid hsz
  clear h hb hbl hn hn1 hsz
  go_enter Try.func17, Try.ntmps17
  go_wp2_with fail
  refine D.out.mono ?_
  rintro e w2 ⟨rfl, hb⟩
  have H2 := Lib.hid (H.out.below hb)
  have U2 := Lib.hid (upd_below H.out.lt hb)
  clear hb D
  obtain ⟨A, c, rfl⟩ := Kd.N_slice H2.out.N
  obtain ⟨A1, c1, rfl⟩ := Kd.R_slice H2.out.B
  obtain ⟨k0, k1, k2, f0, f1, f2⟩ := H2.out.cells
  obtain ⟨gB, hgB⟩ : ∃ gB, A1 = some ⟨gB, 0, none⟩ := by
    obtain ⟨g', c', hv, _⟩ := Kd.R_form H2.out.B (by rw [HN1.out]; omega)
    injection hv with h1
    exact ⟨g', h1⟩
  subst hgB
  obtain ⟨cc, hcl, hK, hcc, hfr⟩ := Kd.R_elem H2.out.B (0 : Int) (n : Int) (by omega) (by rw [HN1.out]; push_cast; omega)
  have hK : cc = [.int .i64 ((bs ++ [(b : Int)]).getD (n : Int).toNat 0)] := hK
  have hgd : (bs ++ [(b : Int)]).getD (n : Int).toNat 0 = (b : Int) := by
    rw [Int.toNat_natCast, List.getD_eq_getElem?_getD, List.getElem?_append_right (by rw [HN.out]; exact Nat.le_refl _), HN.out, Nat.sub_self]; rfl
  rw [hgd] at hK
  subst hK
  have q0 : w2.cell? ⟨gB, n, none⟩ = some (.int .i64 (b : Int)) := by
    have h := hcc 0 _ rfl
    rw [Int.toNat_natCast, show n * (Kd.int .i64).sz + 0 = n from Nat.mul_one n] at h
    exact h
  have hcap := (Kd.N_reads' H2.out.N).2.1
  have hcap2 := (Kd.R_reads' H2.out.B).2.1
  have hn6 : n ≤ 1000001 := by rw [← HN.out]; exact Nat.le_trans HSZ.out (by decide)
  have e1c := w_nat hn6
  have e1b := w_one hn6
  have e2 : (0 : Int) ≤ (b : Int) := Int.natCast_nonneg b
  have e3 : (b : Int) ≤ (c : Int) := by have := HBL.out; omega
  have e4 : (0 : Int) ≤ (n : Int) := Int.natCast_nonneg n
  have e5 : (n : Int) ≤ (c1 : Int) := by have h := hcap2; rw [HN1.out] at h; omega
  have e6 : (n : Int) < (n : Int) + 1 := by omega
  clear hcl hcc hfr hgd hcap hcap2
  rw [HN1.out] at k1
  go_upto_region 4 with (fail)
  go_region
  all_goals
    obtain ⟨S4, U4⟩ := Sco.setN H2.out (grown_refl w2 _) (v1 := .slice A b c) (l' := l.take b) (by have h := Kd.N_take (m := b) H2.out.N HBL.out; exact Kd.N_mono h (fun k hk => hk.imp id (fun h2 => (own_cut A b l.length c).trans h2))) (.inl (own_cut A b l.length c))
    obtain ⟨w4, hw4, s4, u4⟩ : ∃ w4, (w2.setCell ⟨g, 0, none⟩ (.slice A b c)).drew = w4 ∧ Sco N0 w4 g (.slice A b c) (.slice (some ⟨gB, 0, none⟩) (bs ++ [(b : Int)]).length c1) (l.take b) (bs ++ [(b : Int)]) m ∧ Upd g w w4 :=
      ⟨_, rfl, S4.below (below_drew (Below.refl _ _)), Upd.drew (Upd.trans U2.out U4)⟩
    rw [hw4]
    have S := Lib.hid s4; have U := Lib.hid u4
    obtain ⟨k0, k1, k2, f0, f1, f2⟩ := s4.cells
    rw [HN1.out] at k1
    clear S4 U4 hw4 s4 u4
    go_wp2_with fail
    go_ret
    obtain ⟨S5, U5⟩ := Sco.setB S.out (grown_refl w4 _) (v1 := .slice (some ⟨gB, 0, none⟩) n c1) (bs' := bs) (by
      have h := Kd.R_take (m := n) S.out.B (by rw [HN1.out]; exact Nat.le_succ n)
      rw [List.take_left' HN.out] at h
      exact Kd.R_mono h (fun _ _ => trivial)) (.inl (own_cut _ _ _ c1))
    exact ⟨rfl, _, _, S5, Upd.trans U.out U5⟩
end Go.Proofs.Ytlpfgeeibbfibaa.E
