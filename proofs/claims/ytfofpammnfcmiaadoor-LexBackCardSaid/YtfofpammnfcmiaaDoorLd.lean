/- Marline, layer 09: the spellings of signs in memory: Spell, Sign. Conditions: the program's table of spellings is laid. -/
import Derived.Test.YtfofpammnfcmiaaDoorObj
import Derived.Test.YtfofpammnfcmiaaDoorRows
import Derived.Stop.LaidErr
import Derived.Lib.LaidTab
import Derived.Laws.Rows
namespace Go.Proofs.YtfofpammnfcmiaaDoor.E
open Go.RowKit Go.Proofs.YtfofpammnfcmiaaDoorW.PrintWords Go.Proofs.YtfofpammnfcmiaaDoorW.PrintLast Go.Proofs.YtfofpammnfcmiaaDoorW.PrintMore Go.Proofs.YtfofpammnfcmiaaDoor.Obj
set_option linter.unusedVariables false
set_option linter.unusedSimpArgs false
set_option maxRecDepth 100000
theorem blk_lt {w : World} {o : Obj} {g : Nat} (h : w.heap[g]? = some o) : g < w.heap.size := (Array.getElem?_eq_some_iff.1 h).1

/-- the spellings, by number. -/
def splL : List (List UInt8) := [[], [43], [45], [42], [47], [37], [61, 61], [33, 61], [60], [60, 61], [62], [62, 61], [38, 38], [124, 124], [33]]
def spl (n : Nat) : List UInt8 := splL.getD n []
def splV : Array Value := (splL.map fun l => Value.string ⟨l.toArray⟩).toArray
/-- an array of strings that reads as texts. -/
theorem cells_of_strs {H : Type} {enc : TypeId × Value → H} {P : Program} {w : World} {base : Nat} {sp : Nat → Bool} {held : Bool} {fuel : Nat} {t e : TypeId} {n : Nat} {cs : List Value} {zs : List (List UInt8)} {p : List MemPlace}
    (ht : P.underlying t = some (.array n e)) (he : P.underlying e = some .string) (hce : P.cellsOf e = 1) (hct : P.cellsOf t = n)
    (h : DataW.trod enc P w base sp held fuel t cs = some (.agg (zs.map fun z => .lit (.string z)), p)) : cs = zs.map fun z => Value.string ⟨z.toArray⟩ := by
  cases fuel with
  | zero => simp [DataW.trod] at h
  | succ fuel =>
    simp only [DataW.trod, ht, hce, hct, Nat.mul_one] at h
    split at h
    · rename_i hl
      obtain ⟨xs, hm, hx⟩ := Option.map_eq_some_iff.1 h
      have hxs : xs.map (·.1) = zs.map fun z => (DataW.lit (.string z) : DataW H) := by
        have := congrArg Prod.fst hx
        simpa using this
      have hxl : xs.length = n := by simpa using Lib.mapM_length hm
      have hzl : zs.length = n := by
        have := congrArg List.length hxs
        simp at this
        omega
      apply List.ext_getElem?
      intro i
      by_cases hi : i < n
      · obtain ⟨b, hb, hf⟩ := Lib.mapM_at hm i i (by simp [hi])
        obtain ⟨s, hc, rfl, _⟩ := DataW.trod_string he hf
        have h1 : cs[i]? = some (.string s) := by
          have := congrArg (·[0]?) hc
          simpa [List.getElem?_take, List.getElem?_drop] using this
        have h2 : (xs.map (·.1))[i]? = some (DataW.lit (.string s.data.toList) : DataW H) := by simp [hb]
        rw [hxs] at h2
        simp only [List.getElem?_map, Option.map_eq_some_iff, DataW.lit.injEq, Lit.string.injEq] at h2
        obtain ⟨z', hz', hz2⟩ := h2
        rw [h1, List.getElem?_map, hz', hz2]
        rfl
      · rw [List.getElem?_eq_none (by omega), List.getElem?_eq_none (by simp; omega)]
    · cases h
/-- the table of spellings is laid. -/
structure Spl (w : World) : Prop where
  blk : ∃ t fr, w.heap[1]? = some (.cells splV t fr)
theorem Spl.below {w w' : World} (h : Spl w) (hb : Below w.heap.size w w') : Spl w' := by
  obtain ⟨t, fr, h⟩ := h.blk
  exact ⟨t, fr, (hb.block 1 (blk_lt h)).trans h⟩
theorem Spl.cell {w : World} (h : Spl w) (n : Nat) (hn : n < 15) : w.cell? ⟨1, n, none⟩ = some (.string ⟨(spl n).toArray⟩) := by
  obtain ⟨t, fr, h⟩ := h.blk
  have hs : splV[n]? = some (.string ⟨(spl n).toArray⟩) := by
    unfold splV spl
    rw [List.getElem?_toArray, List.getElem?_map, List.getD_eq_getElem?_getD, List.getElem?_eq_getElem (show n < splL.length from hn)]
    rfl
  simp [World.cell?, h, hs]
theorem spl_of_laid {n1 n2 : String} {d1 d2 : DataW Unit} {W : World} (h : laidMet Tryd.prog [(n1, d1), (n2, d2), ("marline/word.spellings", Rows.laid_marline_word_spellings)] W) : Spl W := by
  obtain ⟨ps, ⟨g0, t0, cs0, f0, p0, q0, hg0, ht0, hv0, hd0, _, _⟩, _⟩ := h.tail.tail
  have hg : Tryd.prog.globalNamed "marline/word.spellings" = some 1 := by kernel_rfl
  have hty : (Tryd.prog.globals[1]?).map (·.type) = some 157 := by kernel_rfl
  obtain rfl := Option.some.inj (hg.symm.trans hg0)
  obtain rfl := Option.some.inj (hty.symm.trans ht0)
  have e : (Rows.laid_marline_word_spellings : DataW Unit) = .agg (splL.map fun z => .lit (.string z)) := rfl
  rw [e] at hd0
  have hc := cells_of_strs (e := 9) (n := 15) Tryd.underlying157 Tryd.underlying9 (by kernel_rfl) (by kernel_rfl) hd0
  have hc2 : cs0 = splV := by obtain ⟨l⟩ := cs0; have hc : l = _ := hc; rw [hc]; rfl
  rw [hc2] at hv0
  unfold World.var? at hv0
  rw [hg] at hv0
  simp only [Option.bind_some] at hv0
  split at hv0
  · rename_i cs t fr hb
    injection hv0 with hv0
    exact ⟨t, fr, by rw [hb, hv0]⟩
  · cases hv0
/-- the sign of a text, from a number on. -/
def signF (l : List UInt8) : Nat → Nat → Int × Bool
  | _, 0 => (0, false)
  | k, d + 1 => if 0 < k ∧ spl k = l then ((k : Int), true) else signF l (k + 1) d
def signS (l : List UInt8) : Int × Bool := signF l 0 15
theorem spl_index (k : Nat) (hk : k < 15) (W : World) : (Instr.index 157 (.agg splV) (.int .i64 (k : Int))).run Tryd.prog W = .ok (.string ⟨(spl k).toArray⟩) W := by
  have h : k = 0 ∨ k = 1 ∨ k = 2 ∨ k = 3 ∨ k = 4 ∨ k = 5 ∨ k = 6 ∨ k = 7 ∨ k = 8 ∨ k = 9 ∨ k = 10 ∨ k = 11 ∨ k = 12 ∨ k = 13 ∨ k = 14 := by omega
  rcases h with rfl | rfl | rfl | rfl | rfl | rfl | rfl | rfl | rfl | rfl | rfl | rfl | rfl | rfl | rfl <;> rfl
theorem ret_sign {a c : Int} {b d : Bool} (h : (a, b) = (c, d)) : Ending.returned (.tuple #[.int .i64 a, .bool b]) = .returned (.tuple #[.int .i64 c, .bool d]) := by injection h with h1 h2; rw [h1, h2]
set_option maxHeartbeats 4000000 in
set_option maxRecDepth 100000 in
theorem sign_calls (s : ByteArray) (w : World) (h : Spl w) :
    Calls Tryd.prog 115 #[.string s] w fun e w' => e = .returned (.tuple #[.int .i64 (signS s.data.toList).1, .bool (signS s.data.toList).2]) ∧ Below w.heap.size w w' := by
  obtain ⟨r, hr⟩ : ∃ r, signS s.data.toList = r := ⟨_, rfl⟩
  rw [hr]
  obtain ⟨r1, r2⟩ := r
  have HR := Lib.hid hr
  obtain ⟨t, fr, hb⟩ := h.blk
  have hu157 := Tryd.underlying157
  have hinfo : (Tryd.prog.info? 157).map (·.size) = some splV.size := by kernel_rfl
  obtain ⟨V, hV⟩ : ∃ V, splV = V := ⟨_, rfl⟩
  have IX := Lib.hid (fun (k : Nat) (hk : k < 15) => spl_index k hk)
  rw [hV] at hb hinfo IX
  have HI := Lib.hid hinfo
  have HBB := Lib.hid hb
  clear h hr hV hinfo hb hu157
  go_enter Tryd.func115, Tryd.ntmps115
  go_wp2_with (refine wpList_load_row rfl 157 (.global 1) rfl 1 rfl t V fr _ HBB.out Tryd.underlying157 rfl HI.out ?_)
  go_loop [7] (fun i => ∃ k : Nat, i = .int .i64 k ∧ k ≤ 15 ∧ Hid (signF s.data.toList k (15 - k) = (r1, r2))) (fun i => 15 - (intOf i).toNat)
  case atStart => exact ⟨0, rfl, by omega, HR⟩
  case round =>
    obtain ⟨k, rfl, hk, HK⟩ := hrel
    by_cases hx : k < 15
    · have px : decide ((k : Int) < 15) = true := decide_eq_true (by omega)
      have ix := IX.out k hx
      have hstep : signF s.data.toList k (15 - k) = if 0 < k ∧ spl k = s.data.toList then ((k : Int), true) else signF s.data.toList (k + 1) (15 - (k + 1)) := by
        rw [show 15 - k = (15 - (k + 1)) + 1 by omega]; rfl
      have HS := Lib.hid hstep
      obtain ⟨u, hu⟩ : ∃ u : ByteArray, ⟨(spl k).toArray⟩ = u := ⟨_, rfl⟩
      rw [hu] at ix
      have hul : u.data.toList = spl k := by rw [← hu]
      have HU := Lib.hid hul
      clear hstep hu
      by_cases h0 : k = 0
      · have p0 : decide ((0 : Int) < (k : Int)) = false := decide_eq_false (by omega)
        have p0n : decide (0 < k) = false := decide_eq_false (by omega)
        have H0 := Lib.hid h0
        clear h0 hul
        go_wp2_with fail
        go_round
        case rel => exact ⟨k + 1, by push_cast; rfl, by omega, Lib.hid (by have h := HS.out; rw [HK.out, if_neg (by have := H0.out; omega)] at h; exact h.symm)⟩
        case measure => simp [intOf]; omega
      · have p0 : decide ((0 : Int) < (k : Int)) = true := decide_eq_true (by omega)
        have p0n : decide (0 < k) = true := decide_eq_true (by omega)
        have H0 := Lib.hid h0
        by_cases he : spl k = s.data.toList
        · have hp : (u.toList == s.toList) = true := by rw [ByteArray.toList_eq, ByteArray.toList_eq, hul, he]; exact beq_self_eq_true _
          have HE := Lib.hid he
          clear h0 hul he
          go_wp2_with fail
          go_ret2
          exact ⟨ret_sign (by have h := HS.out; rw [HK.out, if_pos ⟨by have := H0.out; omega, HE.out⟩] at h; exact h.symm), Below.refl _ _⟩
        · have hp : (u.toList == s.toList) = false := by rw [ByteArray.toList_eq, ByteArray.toList_eq, hul]; exact beq_eq_false_iff_ne.2 he
          have HE := Lib.hid he
          clear h0 hul he
          go_wp2_with fail
          go_round
          case rel => exact ⟨k + 1, by push_cast; rfl, by omega, Lib.hid (by have h := HS.out; rw [HK.out, if_neg (fun e => HE.out e.2)] at h; exact h.symm)⟩
          case measure => simp [intOf]; omega
    · have px : decide ((k : Int) < 15) = false := decide_eq_false (by omega)
      go_wp2_with fail
      go_ret2
      exact ⟨ret_sign (by have h := HK.out; rw [show 15 - k = 0 by omega] at h; exact h), Below.refl _ _⟩
end Go.Proofs.YtfofpammnfcmiaaDoor.E
