/- Marline, layer 10: tokens as a text, by the program; the document's answers. Conditions: as each says. -/
import Derived.Test.YtfofpammnfcmiaaDoorLk
import Derived.Test.YtfofpammnfcmiaaDoorSh4
namespace Go.Proofs.YtfofpammnfcmiaaDoor.Lx
open Go.RowKit Go.Proofs.YtfofpammnfcmiaaDoorW.PrintWords Go.Proofs.YtfofpammnfcmiaaDoorW.PrintLast Go.Proofs.YtfofpammnfcmiaaDoorW.PrintMore Go.Proofs.YtfofpammnfcmiaaDoor.Obj Go.Proofs.YtfofpammnfcmiaaDoor.Kinds Go.Proofs.YtfofpammnfcmiaaDoor.E
set_option linter.unusedVariables false
set_option linter.unusedSimpArgs false
set_option maxRecDepth 100000
theorem info9L : (Tryd.prog.info? 9).map (fun i => (i.zero, i.size, i.bytes)) = some (some (.string ⟨#[]⟩), 1, 16) := by kernel_rfl
/-- an own row of strings: nil, or its cells. -/
theorem own_strsL {w : World} {base : Nat} {ok : Nat → Prop} {v : Value} {T : List ByteArray} (h : Kd.R Kd.string 9 w base ok v T) :
    (v = .slice none 0 0 ∧ T = []) ∨ ∃ g c, v = .slice (some ⟨g, 0, none⟩) T.length c ∧ T.length ≤ c ∧ g < w.heap.size ∧ ∀ (j : Nat) x, T[j]? = some x → w.cell? ⟨g, 0 + j, none⟩ = some (.string x) := by
  have h2 := h
  obtain ⟨_, inner, hown, _⟩ := h2
  rcases hown.2 with ⟨hv, hn⟩ | ⟨g, cap, cur, hv, _, hg, hc, _⟩
  · exact .inl ⟨hv, List.length_eq_zero_iff.1 hn⟩
  · subst hv
    refine .inr ⟨g, cap, rfl, hc, (Array.getElem?_eq_some_iff.1 hg).1, ?_⟩
    intro j x hx
    have hC := (Kd.R_reads' h).2.2
    have hl : 0 < T.length := by
      have := (List.getElem?_eq_some_iff.1 hx).1
      omega
    obtain ⟨ad, he, hq⟩ := hC.2.2 hl
    injection he with he
    subst he
    obtain ⟨c, hcl, hK, hcell⟩ := hq j x hx
    have hc1 : c = [.string x] := hK
    subst hc1
    have h3 := hcell 0 _ rfl
    have hs : Kd.string.sz = 1 := rfl
    rw [hs, Addr.add_lit, show 0 + (j * 1 + 0) = 0 + j by omega] at h3
    exact h3
/-- the texts of tokens that are spelled. -/
def txt (l : List S44) : List ByteArray := (l.filter (fun x => !(x.f0 == 0))).map (·.f3)
def spB (l : List S44) : ByteArray := ⟨(Lib.join ((txt l).map (·.data.toList)) ([32] : List UInt8)).toArray⟩
theorem txt_enc (ts : List Tok) : (txt (ts.map enc)).map (·.data.toList) = texts ts := by
  unfold txt texts
  induction ts with
  | nil => rfl
  | cons t ts ih =>
    rw [List.map_cons, List.filter_cons, List.filter_cons]
    by_cases h : t.kind = 0
    · have h1 : (enc t).f0 = 0 := h
      simp only [h1, h, beq_self_eq_true, Bool.not_true, Bool.false_eq_true, if_false, ne_eq, not_true_eq_false, decide_false]
      exact ih
    · have h1 : ((enc t).f0 == 0) = false := by rw [beq_eq_false_iff_ne]; exact h
      simp only [h1, h, Bool.not_false, if_true, ne_eq, not_false_eq_true, decide_true]
      rw [List.map_cons, List.map_cons, List.map_cons, ih]
      rfl
theorem spB_enc (ts : List Tok) : (spB (ts.map enc)).data.toList = spell ts := by
  unfold spB spell
  rw [txt_enc]
theorem txt_take (l : List S44) (j : Nat) (h : j < l.length) : txt (l.take (j + 1)) = txt (l.take j) ++ (if (rd_T44 l j).f0 = 0 then [] else [(rd_T44 l j).f3]) := by
  have h1 : rd_T44 l j = l[j] := by unfold rd_T44; rw [Int.toNat_natCast, List.getD_eq_getElem?_getD, List.getElem?_eq_getElem h]; rfl
  unfold txt
  rw [h1, List.take_succ_eq_append_getElem h, List.filter_append, List.map_append]
  congr 1
  by_cases h0 : l[j].f0 = 0
  · rw [if_pos h0]; simp [h0]
  · rw [if_neg h0]; simp [h0]
set_option maxHeartbeats 8000000 in
theorem spell_calls (A : Option Addr) (c : Nat) (l : List S44) (w : World) (hr : Kd.C k44 w A l.length l) (hc : l.length ≤ c) (hl : l.length ≤ 100000) (hz : (spB l).size ≤ 140737488355328) :
    Calls Tryd.prog 27 #[.slice A l.length c] w fun e w' => e = .returned (.string (spB l)) ∧ Below w.heap.size w w' := by
  have hu44 := Tryd.underlying44
  obtain ⟨n, hn⟩ : ∃ n, l.length = n := ⟨_, rfl⟩
  have HR := Lib.hid hr; have HC := Lib.hid hc; have HN := Lib.hid hn; have HZ := Lib.hid hz
  rw [hn] at hl ⊢
  clear hr hc hn hz
  go_enter Tryd.func27, Tryd.ntmps27
  go_wp2_with fail
  go_loopw [3, 8] (fun o i w' => ∃ (j : Nat) (T : List ByteArray), i = .int .i64 j ∧ j ≤ n ∧ Hid (T.length ≤ j ∧ T = txt (l.take j)) ∧ Hid (Kd.R Kd.string 9 w' w.heap.size (fun _ => True) o T) ∧ Hid (Below w.heap.size w w')) (fun o i _ => n - (intOf i).toNat)
  case atStart => exact ⟨0, [], rfl, Nat.zero_le _, Lib.hid ⟨Nat.le_refl _, rfl⟩, Lib.hid (Kd.R_nil _ _ _ _ _), Lib.hid (Below.refl _ _)⟩
  case round =>
    obtain ⟨j, T, rfl, hj, HT, HR2, HB⟩ := hrel
    by_cases hlt : j < n
    · obtain ⟨B, d, rfl⟩ := Kd.R_slice HR2.out
      have hjl : j < l.length := by have := HN.out; omega
      obtain ⟨ad, he, k0, k1, k2, k3⟩ := at_T44 (Kd.C_below HR.out HB.out) (j : Int) (by omega) (by omega)
      rw [Int.toNat_natCast] at k0 k1 k2 k3
      have NT := Lib.hid (txt_take l j hjl)
      obtain ⟨y, hy⟩ : ∃ y, rd_T44 l j = y := ⟨_, rfl⟩
      rw [hy] at k0 k1 k2 k3 NT
      subst he
      clear hy hjl
      have hA : (0 : Int) ≤ (j : Int) := by omega
      go_upto_region 5 with (fail)
      obtain ⟨g, hg⟩ : ∃ g, wr.heap.size = g := ⟨_, rfl⟩
      have H3 : ∃ w3 : World, wr.alloc (.cells #[.int .i64 y.f0, .int .i64 y.f1, .int .i64 y.f2, .string y.f3] 44) = w3 ∧ Tv w3 g y.f0 y.f1 y.f2 y.f3 ∧ Kd.R Kd.string 9 w3 w.heap.size (fun _ => True) (.slice B T.length d) T ∧ Below w.heap.size w w3 :=
        ⟨_, rfl, by rw [← hg]; exact blk_new wr _, Kd.R_alloc HR2.out _, below_alloc HB.out _⟩
      rw [hg]
      obtain ⟨w3, hw3, v3, r3, b3⟩ := H3
      rw [hw3]
      have R3 := Lib.hid r3; have B3 := Lib.hid b3
      obtain ⟨m0, m1, m2, m3, f0, f1, f2, f3⟩ := v3.cells
      clear hw3 v3 r3 b3 HR2 HB hg k0 k1 k2 k3
      have BS := Lib.hid (show w.heap.size ≤ w3.heap.size from B3.out.size)
      have HL16 := Lib.hid (show (T.length + 1) * 16 ≤ 140737488355328 by have := HT.out.1; omega)
      by_cases h0 : y.f0 = 0
      · have p0 : (y.f0 == 0) = true := by rw [beq_iff_eq]; exact h0
        have HE := Lib.hid (show txt (l.take (j + 1)) = T by rw [NT.out, if_pos h0, List.append_nil, HT.out.2])
        clear h0
        go_wp2_with fail
        go_roundw
        case rel => exact ⟨j + 1, T, by push_cast; rfl, by omega, Lib.hid ⟨by have := HT.out.1; omega, HE.out.symm⟩, R3, B3⟩
        case measure => simp [intOf]; omega
      · have p0 : (y.f0 == 0) = false := by rw [beq_eq_false_iff_ne]; exact h0
        have HE := Lib.hid (show txt (l.take (j + 1)) = T ++ [y.f3] by rw [NT.out, if_neg h0, HT.out.2])
        clear h0
        go_wp2_with ((with_reducible refine gate_builtin (b := .append) (xs := #[.tmp 15, .tmp 18]) rfl ?_); at_builtin; refine Kd.R_append Kd.string (w0 := w) w.heap.size rfl (.tmp 15) (.tmp 18) 81 9 (.string ⟨#[]⟩) 16 rfl Tryd.underlying81 info9L rfl (by decide) (by decide) (.slice B T.length d) T y.f3 [.string y.f3] (fun _ => True) (fun _ => False) rfl rfl rfl (fun _ hk => hk.elim) (fun _ _ => trivial) R3.out B3.out BS.out HL16.out ?_; intro v6 w6 ho hb6 hg6 hat; have HO := Lib.hid ho; have HB6 := Lib.hid hb6; clear ho hb6 hg6 hat)
        go_roundw
        case rel => exact ⟨j + 1, T ++ [y.f3], by push_cast; rfl, by omega, Lib.hid ⟨by have := HT.out.1; rw [List.length_append]; simp only [List.length_cons, List.length_nil]; omega, HE.out.symm⟩, HO, HB6⟩
        case measure => simp [intOf]; omega
    · have hje : j = n := by omega
      subst hje
      have hT : T = txt l := by rw [HT.out.2, ← HN.out, List.take_length]
      have HE := Lib.hid (show (⟨(Lib.join (T.map (·.data.toList)) ([32] : List UInt8)).toArray⟩ : ByteArray) = spB l by rw [hT]; rfl)
      have hln : (Lib.join (T.map (·.data.toList)) ([32] : List UInt8)).length ≤ 140737488355328 := by
        have h1 : (Lib.join (T.map (·.data.toList)) ([32] : List UInt8)).length = (spB l).size := by
          rw [← HE.out]
          show _ = (Lib.join (T.map (·.data.toList)) ([32] : List UInt8)).toArray.size
          simp
        have := HZ.out; omega
      rcases own_strsL HR2.out with ⟨rfl, rfl⟩ | ⟨b, d, rfl, hd, hb, hcell⟩
      · have C1 := Lib.hid (Tryd.strings_Join_none none 0 ⟨#[32]⟩ wr)
        have HE2 := Lib.hid (show (⟨#[]⟩ : ByteArray) = spB l from HE.out)
        clear hT
        go_wp2_with fail
        refine C1.out.mono ?_
        rintro e w2 ⟨rfl, rfl⟩
        go_wp2_with fail
        go_ret
        rw [← HE2.out]
        exact ⟨rfl, HB.out⟩
      · have C1 := Lib.hid (Tryd.strings_Join b 0 d T ⟨#[32]⟩ wr hcell hb (by have := HT.out.1; omega) hd hln)
        clear hcell hd hb hT hln
        go_wp2_with fail
        refine C1.out.mono ?_
        rintro e w2 ⟨rfl, b2⟩
        have B2 := Lib.hid (HB.out.trans (b2.mono HB.out.size))
        clear b2 C1
        go_wp2_with fail
        go_ret
        refine ⟨?_, B2.out⟩
        rw [← HE.out]; rfl
/-- the document's tokens. -/
theorem refAll_calls (s : ByteArray) (hs : s.size ≤ 1000000) (w : World) :
    Calls Tryd.prog 25 #[.string s] w fun e w' => ∃ v, e = .returned (.tuple #[v, .int .i64 (outR [] (allS s.data.toList)).2.1, .int .i64 (outR [] (allS s.data.toList)).2.2]) ∧ Kd.R k44 44 w' w.heap.size (fun _ => True) v (outR [] (allS s.data.toList)).1 ∧ Below w.heap.size w w' :=
  PL.marlineref10_All.calls _ s _ _ _ w (all_is s hs)
theorem same_self (l : List S44) (hl : l.length ≤ 1000000000) : PL.marlineref10_Same.f (l.length + 1) l l = some true := by
  have key : ∀ (d i k : Nat), i + d = l.length → d < k → PL.marlineref10_Same.l0 k l l (i : Int) = some true := by
    intro d
    induction d with
    | zero =>
      intro i k hi hk
      match k, hk with
      | k + 1, _ => rw [PL.marlineref10_Same.l0, if_neg (by omega)]
    | succ d ih =>
      intro i k hi hk
      match k, hk with
      | k + 1, hk =>
        have hw : wrap64 ((i : Int) + 1) = ((i + 1 : Nat) : Int) := by unfold wrap64; omega
        rw [PL.marlineref10_Same.l0, if_pos (by omega), if_pos (by omega), if_pos (by omega), if_neg (by simp), hw]
        exact ih (i + 1) k (by omega) (by omega)
  unfold PL.marlineref10_Same.f
  rw [if_pos rfl]
  exact key l.length 0 _ (by omega) (by omega)
end Go.Proofs.YtfofpammnfcmiaaDoor.Lx
