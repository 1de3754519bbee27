/- The row of the law ValReads, out of its walk. No condition. -/
import Derived.Test.YtfofpammnfcmiaaDoorRows
import Derived.Test.YtfofpammnfcmiaaDoorVv
import Derived.Test.YtfofpammnfcmiaaDoorCards
import Derived.Test.YtfofpammnfcmiaaDoorTie
import Derived.LaidMore
import Derived.Lay
import Derived.Stop.LaidErr
import Derived.Lib.LaidTab
import Derived.SevenTiedAt
import Derived.WalkKit
import Derived.ProofKit
import Derived.OpenShut
import Derived.ShutString
import Derived.ChangeOld
import Derived.Below
import Derived.SizedLaws
import Derived.JoinedCond
import Derived.Deep.CondSized
namespace Go.Proofs.YtfofpammnfcmiaaDoor.valReads
open Go.ChangeShapes Go.WideShapes Go.ChangeAt Go.RowKit
open Go.ChangeMaps (open_string shut_string)
set_option linter.unusedVariables false
set_option linter.unusedSimpArgs false
theorem own : ownKnob Tryd.prog.godebug = none := by kernel_rfl
theorem laidOut : laidOutB Tryd.prog = true := by kernel_rfl
set_option maxRecDepth 100000 in
theorem door_met (os : Os) (args : Array Value) : laidMetH Tryd.prog Rows.valReadsUptoRow.laid ((World.laidAll Tryd.prog os Rows.valReadsUptoRow.laid).forCall (fun _ _ => 0) ⟨#[], args, []⟩).memory :=
  by rw [MakeChecks.laidMetH_plain _ _ _ (by kernel_rfl)]; exact laidMet_laidAll _ (by kernel_rfl) (by kernel_rfl)
set_option maxHeartbeats 2000000 in
set_option maxRecDepth 100000 in
theorem lifted (os : Os) (started : os.Started) (H : Type) (enc : TypeId × Value → H) (F : Stop.Interp) :
    ReturnsInHanded {} Tryd.checked os 12 .any (fun w args => ((Rows.OpenSpec.upto Rows.valReadsSpec).pre enc Tryd.prog Tryd.f12 [] false w args ∧ laidMetH Tryd.prog Rows.valReadsUptoRow.laid w) ∧ sizedMet enc Tryd.prog Tryd.f12 (Rows.OpenSpec.upto Rows.valReadsSpec) false w args) (((Rows.OpenSpec.upto Rows.valReadsSpec).at F).post enc Tryd.prog Tryd.f12 false true false false) := by
  refine returnsInHanded_of_cond_and_shaped (C := Tryd.checked) (s := (Rows.OpenSpec.upto Rows.valReadsSpec)) (k := Rows.uptoSmall) (X := fun w _ => laidMetH Tryd.prog Rows.valReadsUptoRow.laid w) rfl (fun _ _ _ hh h => h.of_heap hh) own started (by kernel_rfl) Tryd.func12
    (OpenSpec.witness_shaped (enc := enc) (C := Tryd.checked) (os := os) (s := (Rows.OpenSpec.upto Rows.valReadsSpec)) (k := Rows.uptoSmall) (X := fun w _ => laidMetH Tryd.prog Rows.valReadsUptoRow.laid w) rfl false (World.laidAll Tryd.prog os Rows.valReadsUptoRow.laid) #[.agg #[.int .i64 0, .int .i64 0, .slice none 0 0], .agg #[.int .i64 0, .int .i64 0, .slice none 0 0], .string ByteArray.empty] 8 rfl (World.shaped_of_ZipB (by kernel_rfl) (by kernel_rfl)) (by kernel_rfl) (x := ([.agg [.lit (.int .i64 0), .lit (.int .i64 0), .nil], .agg [.lit (.int .i64 0), .lit (.int .i64 0), .nil], .lit (.string [])], [], [])) (by kernel_rfl) rfl (by kernel_rfl) (by kernel_rfl) (door_met os _)) ?_
  intro W base args ds gs before hval0 hW0 hcnd hk0 hsz0 hL0 hSh _
  have hL : laidMet Tryd.prog Rows.valReadsUptoRow.laid W := by rw [← MakeChecks.laidMetH_plain _ _ _ (by kernel_rfl)]; exact hL0
  have hW : DataW.Whole enc Tryd.prog Tryd.f12.params.toList Rows.valReadsSpec.vars false W args.toList ds gs before := hW0
  show Calls Tryd.prog 12 args W fun e W' => ∃ v, e = .returned v ∧ Rows.valReadsSpec.post enc Tryd.prog Tryd.f12 false true false false W args v W'
  have hbulk0 : Rows.uptoBulkAll (ds ++ gs) ≤ 1048576 := of_decide_eq_true hk0
  have hsz : (DataW.weightsEach Tryd.prog (Tryd.f12.params.toList ++ Rows.valReadsSpec.plain.varTypes Tryd.prog) (ds ++ gs)).all (· ≤ reachBytes) = true := hsz0
  have hval : ∀ (j : Nat) t v, Tryd.f12.params[j]? = some t → args[j]? = some v → Value.okWide Tryd.prog W .any base t v := hval0
  have hW' := hW
  obtain ⟨p, q, hA0, hV, rfl, hfz, hnd⟩ := hW
  have hA : DataW.TrodAll enc Tryd.prog W 0 (fun _ => true) true Tryd.f12.params.toList args.toList ds p := hA0
  rw [Tryd.params12] at hA hval hsz
  obtain ⟨v0, vs0, d0, ds0, p0, q0, hargs, rfl, rfl, h0, r0⟩ := trodAll_cons hA
  obtain ⟨v1, vs1, d1, ds1, p1, q1, rfl, rfl, rfl, h1, r1⟩ := trodAll_cons r0
  obtain ⟨v2, vs2, d2, ds2, p2, q2, rfl, rfl, rfl, h2, r2⟩ := trodAll_cons r1
  obtain ⟨rfl, rfl, rfl⟩ := trodAll_nil r2
  obtain rfl : args = #[v0, v1, v2] := by cases args; simp_all
  obtain ⟨rfl, rfl⟩ := trodVars_none hV
  have hbulk := hbulk0; simp only [Rows.uptoBulkAll, List.append_nil, List.cons_append, List.nil_append] at hbulk
  have k0 := h0
  have lt0 : ∀ x ∈ p0, x.block < W.heap.size := by obtain ⟨m, hm⟩ := k0; exact DataW.trod_lt m _ _ _ hm
  obtain ⟨cs0, rfl, hcz0⟩ := okWide_struct Tryd.underlying67 (hval 0 67 v0 rfl rfl)
  obtain ⟨fuel0, hf0⟩ := h0
  obtain ⟨l0, hK0, wf0, hB0⟩ := Opn.opens67b fuel0 enc W _ _ _ _ _ hf0 (fun n hn => by simpa using List.all_eq_true.1 hsz n (DataW.weights_mem_each (j := 0) (t := 67) rfl rfl n hn))
  obtain ⟨A0, c0, rfl, hl0, hC0⟩ := Opn.open67 hK0
  have k1 := h1
  have lt1 : ∀ x ∈ p1, x.block < W.heap.size := by obtain ⟨m, hm⟩ := k1; exact DataW.trod_lt m _ _ _ hm
  obtain ⟨cs1, rfl, hcz1⟩ := okWide_struct Tryd.underlying67 (hval 1 67 v1 rfl rfl)
  obtain ⟨fuel1, hf1⟩ := h1
  obtain ⟨l1, hK1, wf1, hB1⟩ := Opn.opens67b fuel1 enc W _ _ _ _ _ hf1 (fun n hn => by simpa using List.all_eq_true.1 hsz n (DataW.weights_mem_each (j := 1) (t := 67) rfl rfl n hn))
  obtain ⟨A1, c1, rfl, hl1, hC1⟩ := Opn.open67 hK1
  obtain ⟨a2, rfl, rfl, rfl, y2⟩ := open_string Tryd.underlying9 (hval 2 9 v2 rfl rfl) h2
  have w2 : a2.size ≤ 140737488351232 := by
    have z := sized_string hsz (j := 2) (t := 9) rfl rfl
    rw [Array.length_toList] at z
    exact z
  have hp := Vl.vpow hL
  have he := Vl.verrs hL
  clear hA0 hval0 hsz0 hsz
  refine (YtfofpammnfcmiaaDoor.Vl.reads_row l0 A0 c0 l1 A1 c1 a2 W wf0 (by have hz := hB0; dsimp only at hz; omega) hl0 hC0 wf1 (by have hz := hB1; dsimp only at hz; omega) hl1 hC1 w2 hp he).mono fun e W' ⟨he, bel⟩ => ?_
  subst he
  exact ⟨_, rfl, _, _, _, [], _, [], hW', trodAll_mk1 (shut_bool Tryd.underlying4 _), (trodAll_cons_mk (Below.trod laidOut (by kernel_rfl) (of_decide_eq_true (by kernel_rfl)) k0 bel lt0) (trodAll_cons_mk (Below.trod laidOut (by kernel_rfl) (of_decide_eq_true (by kernel_rfl)) k1 bel lt1) (trodAll_cons_mk (shut_string Tryd.underlying9 y2) trodAll_mk0))), rfl, bel.frame _, fun h => by cases h⟩
theorem over : Rows.valReadsUptoRow.holds Tryd.pinned (Rows.OpenSpec.upto Rows.valReadsSpec) :=
  OpenClaim.holds_of_cond 12 Tryd.f12 rfl rfl rfl rfl rfl rfl rfl ⟨rfl, rfl, rfl, rfl, rfl⟩ rfl rfl rfl rfl rfl (by kernel_rfl) Tryd.func12 (by kernel_rfl)
    (of_decide_eq_true (by kernel_rfl)) (by unfold Func.isWrapper; first | (rw [if_pos (by decide +kernel)]; kernel_rfl) | (rw [if_neg (by decide +kernel)]; exact ⟨rfl, rfl⟩))
    (fun os started H enc _ F => lifted os started H enc F)
theorem carded : Rows.ValReadsUptoCardSaid :=
  Claim7.holds_tied_plain_at .later [] [.data, .data, .data, .sentinel, .sentinel] true (true, "679cd791ec74097b37a7ea0ead4efe93fe1c0c2472b7ce0bc1e4169260e387bd") true
    over (fun _ h => by cases h) (by kernel_rfl) (fun _ h => by cases h) valReadsUpto_row_tie rfl ⟨rfl, rfl⟩ (by kernel_rfl) rfl
    (fun f fn hf hfn => by
      obtain rfl : f = 12 := Option.some.inj ((show Tryd.prog.funcNamed "marline/marlinelaw06.ValReads" = some 12 by kernel_rfl).symm.trans hf) |>.symm
      obtain rfl : fn = Tryd.f12 := (Option.some.inj (Tryd.func12.symm.trans hfn)).symm
      exact ⟨by kernel_rfl, fun j t ht => by
        rw [Tryd.params12] at ht
        have hj : j < 3 := by
          rcases Nat.lt_or_ge j 3 with h | h
          · exact h
          · rw [Array.getElem?_eq_none (by simpa using h)] at ht; cases ht
        match j, hj, ht with
        | 0, _, ht =>
          have h3 : t = 67 := by simpa using ht.symm
          subst h3
          exact (show Tryd.prog.wantsStandIn 67 = false by kernel_rfl)
        | 1, _, ht =>
          have h3 : t = 67 := by simpa using ht.symm
          subst h3
          exact (show Tryd.prog.wantsStandIn 67 = false by kernel_rfl)
        | 2, _, ht =>
          have h3 : t = 9 := by simpa using ht.symm
          subst h3
          exact (show Tryd.prog.wantsStandIn 9 = false by kernel_rfl)⟩)
    (by kernel_rfl)
#print axioms carded
end Go.Proofs.YtfofpammnfcmiaaDoor.valReads
namespace Go.Proofs.YtfofpammnfcmiaaDoor
/-- The card, under a short name, for the claim. -/
theorem valReadsUpto_holds : Rows.ValReadsUptoCardSaid := valReads.carded
end Go.Proofs.YtfofpammnfcmiaaDoor
