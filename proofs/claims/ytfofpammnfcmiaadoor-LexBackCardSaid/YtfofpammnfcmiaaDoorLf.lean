/- Marline, layer 09: the contracts of words and marks, what the program is tried with. Conditions: the tables are laid. -/
import Derived.Test.YtfofpammnfcmiaaDoorLe
import Derived.Test.YtfofpammnfcmiaaDoorSh5
import Derived.Lib.ConvBytes
namespace Go.Proofs.YtfofpammnfcmiaaDoor.E
open Go.RowKit Go.Proofs.YtfofpammnfcmiaaDoorW.PrintWords Go.Proofs.YtfofpammnfcmiaaDoorW.PrintLast Go.Proofs.YtfofpammnfcmiaaDoorW.PrintMore Go.Proofs.YtfofpammnfcmiaaDoor.Obj
set_option linter.unusedVariables false
set_option linter.unusedSimpArgs false
set_option maxRecDepth 100000

theorem var_below9 {w w' : World} (hb : Below w.heap.size w w') {n : String} {cs : Array Value} (h : w.var? Tryd.prog n = some cs) : w'.var? Tryd.prog n = some cs := by
  unfold World.var? at h ⊢
  cases hg : Tryd.prog.globalNamed n with
  | none => simp [hg] at h
  | some g =>
    simp only [hg, Option.bind_some] at h ⊢
    have hlt : g < w.heap.size := by
      rcases Nat.lt_or_ge g w.heap.size with h' | h'
      · exact h'
      · simp [Array.getElem?_eq_none h'] at h
    rw [hb.block g hlt]
    exact h
/-- both tables are laid. -/
structure Tabs (w : World) : Prop where
  spl : Spl w
  sp : Lib.TabIs Tryd.prog w "strings.asciiSpace" .u8 Lib.asciiSpaceTab
theorem Tabs.below {w w' : World} (h : Tabs w) (hb : Below w.heap.size w w') : Tabs w' := ⟨h.spl.below hb, var_below9 hb h.sp⟩
theorem tabs_of_laid {n1 : String} {d1 : DataW Unit} {W : World} (h : laidMet Tryd.prog [(n1, d1), ("strings.asciiSpace", Rows.laid_strings_asciiSpace), ("marline/word.spellings", Rows.laid_marline_word_spellings)] W) : Tabs W := by
  refine ⟨spl_of_laid h, ?_⟩
  have h1 := h.tail
  have e : (Rows.laid_strings_asciiSpace : DataW Unit) = Lib.tabData .u8 Lib.asciiSpaceTab := rfl
  rw [e] at h1
  exact Lib.tabIs_of_head (g := 3) (t := 170) (e := 5) (n := 256) (by kernel_rfl) (by kernel_rfl) Tryd.underlying170 Tryd.underlying5 (by kernel_rfl) (by kernel_rfl) h1
abbrev wordsS : ByteArray := ⟨([114, 101, 99, 32, 105, 115, 111, 32, 102, 117, 110, 32, 109, 101, 114, 103, 101, 32, 109, 97, 105, 110, 32, 118, 97, 114, 32, 105, 102, 32, 101, 108, 115, 101, 32, 119, 104, 105, 108, 101, 32, 114, 101, 116, 117, 114, 110].append [32, 102, 111, 114, 107, 32, 106, 111, 105, 110, 32, 112, 114, 105, 110, 116, 32, 110, 101, 119, 32, 98, 121, 32, 105, 110, 116, 32, 98, 111, 111, 108, 32, 114, 101, 118, 32, 116, 114, 117, 101, 32, 102, 97, 108, 115, 101]).toArray⟩
theorem fields_words : Lib.fields wordsS.data.toList = wordsL := by decide +kernel
theorem ascii_words : ∀ (j : Nat) b, wordsS.data.toList[j]? = some b → b.toNat < 128 := by
  intro j b h
  have : ∀ b ∈ wordsS.data.toList, b.toNat < 128 := by decide +kernel
  exact this b (List.mem_of_getElem? h)
/-- what All comes to: a row of its own, of the words. -/
def AllP (w : World) (e : Ending) (w' : World) : Prop := ∃ g, w.heap.size ≤ g ∧ e = .returned (.slice (some ⟨g, 0, none⟩) 20 20) ∧ (∀ j, j < 20 → w'.cell? ⟨g, j, none⟩ = some (.string (wordsB.getD j ByteArray.empty))) ∧ Below w.heap.size w w'
theorem all_calls (w : World) (h : Tabs w) : Calls Tryd.prog 114 #[] w (AllP w) := by
  have FI := Lib.hid (Tryd.strings_Fields_laid wordsS w (by decide) ascii_words h.sp)
  rw [fields_words] at FI
  clear h
  go_enter Tryd.func114, Tryd.ntmps114
  go_wp2_with fail
  refine FI.out.mono ?_
  rintro e w2 ⟨rfl, h2⟩
  obtain ⟨g, hg⟩ : ∃ g, w.heap.size = g := ⟨_, rfl⟩
  rw [hg]
  have HW := Lib.hid h2
  have HG := Lib.hid hg
  clear h2 hg FI
  go_wp2_with fail
  go_ret
  refine ⟨g, by have := HG.out; omega, rfl, ?_, by rw [HW.out]; exact below_alloc (Below.refl _ _) _⟩
  intro j hj
  have hb : w2.heap[g]? = some (.cells (wordsL.map fun l => Value.string ⟨l.toArray⟩).toArray 9 (0, 0)) := by
    rw [HW.out, ← HG.out]
    simp [World.alloc, -World.alloc_eq]
  have hL : wordsL.length = 20 := rfl
  simp only [World.cell?, hb]
  unfold wordsB
  rw [List.getD_eq_getElem?_getD, List.getElem?_map, List.getElem?_eq_getElem (show j < wordsL.length by omega)]
  simp [List.getElem?_eq_getElem (show j < wordsL.length by omega)]
theorem is_calls (s : ByteArray) (w : World) (h : Tabs w) : Calls Tryd.prog 93 #[.string s] w fun e w' => e = .returned (.bool (isS s.data.toList)) ∧ Below w.heap.size w w' := by
  have AL := Lib.hid (all_calls w h)
  clear h
  go_enter Tryd.func93, Tryd.ntmps93
  go_wp2_with fail
  refine AL.out.mono ?_
  rintro e w2 ⟨g, _, rfl, hc, hb⟩
  have B2 := Lib.hid hb
  have hwl : wordsB.length = 20 := rfl
  have CT := Lib.hid (Tryd.slices_Contains_string g 0 20 20 wordsB s w2 (by decide) (by decide) (fun j hj => by rw [Nat.zero_add]; exact hc j (by omega)))
  have HE : Lib.containsS (wordsB.take 20) s = isS s.data.toList := by
    rw [Bool.eq_iff_iff, Lib.containsS_iff]
    unfold isS
    rw [decide_eq_true_iff, List.take_of_length_le (by omega)]
    unfold wordsB
    rw [List.mem_map]
    constructor
    · rintro ⟨l, h1, rfl⟩; simpa using h1
    · intro h1; exact ⟨_, h1, by simp⟩
  rw [HE] at CT
  clear hb hc HE hwl AL
  go_wp2_with fail
  refine CT.out.mono ?_
  rintro e w3 ⟨rfl, rfl⟩
  go_wp2_with fail
  go_ret
  exact ⟨rfl, B2.out⟩
theorem index_single (a : UInt8) : (0 ≤ Lib.indexByte [40, 41, 123, 125, 91, 93, 44, 59, 46, 61, 60, 62, 43, 45, 42, 47, 37, 33] a) ↔ a ∈ singleL := by
  have : ∀ n : Fin 256, ((0 ≤ Lib.indexByte [40, 41, 123, 125, 91, 93, 44, 59, 46, 61, 60, 62, 43, 45, 42, 47, 37, 33] (UInt8.ofNat n.val)) ↔ UInt8.ofNat n.val ∈ singleL) := by decide +kernel
  have h := this ⟨a.toNat, a.toNat_lt⟩
  simpa using h
abbrev singleS : ByteArray := ⟨#[40, 41, 123, 125, 91, 93, 44, 59, 46, 61, 60, 62, 43, 45, 42, 47, 37, 33]⟩
theorem sign_two (a b : UInt8) : (signS [a, b]).2 = decide ([a, b] ∈ splL) := by
  rcases sign_spec [a, b] with ⟨m, h1, h2, h3, h4⟩ | ⟨h1, h2⟩
  · rw [h4, decide_eq_true]
    rw [← h3]
    unfold spl
    rw [List.getD_eq_getElem?_getD, List.getElem?_eq_getElem (show m < splL.length by show m < 15; omega)]
    exact List.getElem_mem _
  · rw [h1, decide_eq_false]
    intro hm
    obtain ⟨n, hn, he⟩ := List.getElem_of_mem hm
    have hn : n < 15 := hn
    by_cases h0 : n = 0
    · subst h0; exact absurd he (by simp [splL])
    · refine h2 n (by omega) (by omega) ?_
      unfold spl
      rw [List.getD_eq_getElem?_getD, List.getElem?_eq_getElem hn]
      exact he
theorem bytes_of {x : ByteArray} {l : List UInt8} (h : x.data.toList = l) : x = ⟨l.toArray⟩ := by rw [← h]
def markR (a : UInt8) : List UInt8 := if a ∈ singleL then [a] else []
theorem markR_yes {a : UInt8} (h : a ∈ singleL) : markR a = [a] := if_pos h
theorem markR_no {a : UInt8} (h : ¬ a ∈ singleL) : markR a = [] := if_neg h
theorem mark_tail (a : UInt8) (w : World) : Calls Tryd.prog 102 #[.string singleS, .int .u8 (a.toNat : Int)] w fun e w' => ∃ n : Int, e = .returned (.int .i64 n) ∧ (a ∈ singleL ↔ 0 ≤ n) ∧ w' = w := by
  refine (Tryd.strings_IndexByte singleS (a.toNat : Int) w).mono ?_
  rintro e w' ⟨rfl, hw⟩
  refine ⟨_, rfl, ?_, hw⟩
  rw [Int.toNat_natCast, show a.toNat.toUInt8 = a from by simp]
  exact (index_single a).symm
set_option maxHeartbeats 4000000 in
theorem mark_calls (s : ByteArray) (w : World) (hs : s.size ≤ 140737488355328) (h : Tabs w) : Calls Tryd.prog 95 #[.string s] w fun e w' => e = .returned (.string ⟨(markS s.data.toList).toArray⟩) ∧ Below w.heap.size w w' := by
  have hsz : s.size = s.data.toList.length := rfl
  have hTL := ByteArray.toList_eq s
  cases hl : s.data.toList with
  | nil =>
    have e1 : s.toList.isEmpty = true := by rw [hTL, hl]; rfl
    have e2 : s.toList = [] := by rw [hTL, hl]
    rw [hl] at hsz
    have hz : s.size = 0 := hsz
    have p1 : decide ((1 : Int) < (s.size : Int)) = false := decide_eq_false (by omega)
    have HZ := Lib.hid hz
    clear hsz hl hz hTL h
    go_enter Tryd.func95, Tryd.ntmps95
    go_wp2_with fail
    go_ret
    exact ⟨rfl, Below.refl _ _⟩
  | cons a r =>
    have e1 : s.toList.isEmpty = false := by rw [hTL, hl]; rfl
    have e2 : (!s.toList.isEmpty) = true := by rw [e1]; rfl
    have e3 : ¬ s.toList = [] := by rw [hTL, hl]; simp
    rw [hl] at hsz
    simp only [List.length_cons] at hsz
    have hz : 0 < s.size := by omega
    have hs0 : s[0] = a := by
      have h1 : s[0] = s.data.toList.getD 0 0 := by rw [List.getD_eq_getElem?_getD, List.getElem?_eq_getElem (by exact hz)]; rfl
      rw [h1, hl]; rfl
    have one : (s.extract 0 1) = ⟨[a].toArray⟩ := bytes_of (by simp [hl])
    cases r with
    | nil =>
      have hz1 : s.size = 1 := hsz
      have p1 : decide ((1 : Int) < (s.size : Int)) = false := decide_eq_false (by omega)
      have MT := Lib.hid (mark_tail a w)
      have hm : markS [a] = markR a := rfl
      rw [hm]
      have ONE := Lib.hid one
      have q1 : (1 : Int) ≤ (s.size : Int) := by omega
      have HZ := Lib.hid hz1
      clear hl hTL h hsz hm one hz1
      go_enter Tryd.func95, Tryd.ntmps95
      go_wp2_with fail
      refine MT.out.mono ?_
      rintro e w1 ⟨n, rfl, hn, rfl⟩
      by_cases hn0 : 0 ≤ n
      · have q2 : decide (0 ≤ n) = true := decide_eq_true hn0
        have HM := Lib.hid (hn.2 hn0)
        clear hn
        go_wp2_with fail
        go_ret
        exact ⟨by rw [markR_yes HM.out]; first | rfl | (rw [ONE.out]; rfl), Below.refl _ _⟩
      · have q2 : decide (0 ≤ n) = false := decide_eq_false hn0
        have HM := Lib.hid (fun e => hn0 (hn.1 e) : ¬ a ∈ singleL)
        clear hn
        go_wp2_with fail
        go_ret
        exact ⟨by rw [markR_no HM.out]; rfl, Below.refl _ _⟩
    | cons b r =>
      have hz2 : 2 ≤ s.size := by rw [hsz, List.length_cons]; omega
      have p1 : decide ((1 : Int) < (s.size : Int)) = true := decide_eq_true (by omega)
      have two : (s.extract 0 2) = ⟨[a, b].toArray⟩ := bytes_of (by simp [hl])
      have SG := Lib.hid (sign_calls (s.extract 0 2) w h.spl)
      have htl : (s.extract 0 2).data.toList = [a, b] := by rw [two]
      rw [htl] at SG
      have hm : markS (a :: b :: r) = if [a, b] ∈ splL then [a, b] else markR a := rfl
      have hsg := sign_two a b
      rw [hm]
      have ONE := Lib.hid one; have TWO := Lib.hid two
      have q1 : (1 : Int) ≤ (s.size : Int) := by omega
      have q1b : (2 : Int) ≤ (s.size : Int) := by omega
      have MT := Lib.hid (fun w => mark_tail a w)
      clear hl hTL h hsz hm one two htl
      by_cases h2 : [a, b] ∈ splL
      · rw [decide_eq_true h2] at hsg
        rw [hsg] at SG
        rw [if_pos h2]
        clear hsg h2
        go_enter Tryd.func95, Tryd.ntmps95
        go_wp2_with fail
        refine SG.out.mono ?_
        rintro e w1 ⟨rfl, hb⟩
        have B1 := Lib.hid hb
        clear hb
        go_wp2_with fail
        go_ret
        exact ⟨by first | rfl | (rw [TWO.out]; rfl), B1.out⟩
      · rw [decide_eq_false h2] at hsg
        rw [hsg] at SG
        rw [if_neg h2]
        clear hsg h2
        go_enter Tryd.func95, Tryd.ntmps95
        go_wp2_with fail
        refine SG.out.mono ?_
        rintro e w1 ⟨rfl, hb⟩
        have B1 := Lib.hid hb
        clear hb
        go_wp2_with fail
        refine (MT.out w1).mono ?_
        rintro e w2 ⟨n, rfl, hn, rfl⟩
        by_cases hn0 : 0 ≤ n
        · have q2 : decide (0 ≤ n) = true := decide_eq_true hn0
          have HM := Lib.hid (hn.2 hn0)
          clear hn
          go_wp2_with fail
          go_ret
          exact ⟨by rw [markR_yes HM.out]; first | rfl | (rw [ONE.out]; rfl), B1.out⟩
        · have q2 : decide (0 ≤ n) = false := decide_eq_false hn0
          have HM := Lib.hid (fun e => hn0 (hn.1 e) : ¬ a ∈ singleL)
          clear hn
          go_wp2_with fail
          go_ret
          exact ⟨by rw [markR_no HM.out]; rfl, B1.out⟩
/-- the value of digits behind a value; none: not all are digits. -/
def val : List UInt8 → Int → Option Int
  | [], v => some v
  | c :: r, v => if 48 ≤ c.toNat ∧ c.toNat ≤ 57 then val r (10 * v + (c.toNat - 48)) else none
def readS (l : List UInt8) : Int × Int :=
  if l = [] then (0, 1) else match val l 0 with
  | none => (0, 1)
  | some v => if v ≤ 9223372036854775807 then (v, 0) else (0, 2)
theorem byte_bd (c : UInt8) : (0 : Int) ≤ (c.toNat : Int) ∧ (c.toNat : Int) ≤ 255 := by have := c.toNat_lt; omega
theorem drop_get (l : List UInt8) (k : Nat) (h : k < l.length) : l.drop k = l.getD k 0 :: l.drop (k + 1) := by
  rw [List.drop_eq_getElem_cons h, List.getD_eq_getElem?_getD, List.getElem?_eq_getElem h]; rfl
theorem val_far (l : List UInt8) : ∀ v : Int, 9223372036854775807 < v → ∀ u, val l v = some u → 9223372036854775807 < u := by
  induction l with
  | nil => intro v hv u h; simp only [val, Option.some.injEq] at h; omega
  | cons c r ih =>
    intro v hv u h
    simp only [val] at h
    by_cases hc : 48 ≤ c.toNat ∧ c.toNat ≤ 57
    · rw [if_pos hc] at h
      exact ih _ (by omega) u h
    · rw [if_neg hc] at h; exact absurd h (by simp)
/-- what is left is told by what has come. -/
def Left (l : List UInt8) (k : Nat) (n : Int) (big : Bool) : Prop :=
  ∃ v, val l 0 = val (l.drop k) v ∧ 0 ≤ v ∧ (big = true → 9223372036854775807 < v) ∧ (big = false → n = v ∧ v ≤ 9223372036854775807) ∧ 0 ≤ n ∧ n ≤ 9223372036854775807
theorem left_bad {l r : List UInt8} {k : Nat} {m : Int} {bg : Bool} {ch : UInt8} (h : Left l k m bg) (h0 : l ≠ []) (hd : l.drop k = ch :: r) (hc : ¬ (48 ≤ ch.toNat ∧ ch.toNat ≤ 57)) : readS l = (0, 1) := by
  obtain ⟨v, h1, _⟩ := h
  rw [hd] at h1
  simp only [val] at h1
  rw [if_neg hc] at h1
  unfold readS
  rw [if_neg h0, h1]
theorem left_end {l : List UInt8} {k : Nat} {m : Int} {bg : Bool} (h : Left l k m bg) (h0 : l ≠ []) (hd : l.drop k = []) : readS l = if bg = true then (0, 2) else (m, 0) := by
  obtain ⟨v, h1, h2, h3, h4, h5, h6⟩ := h
  rw [hd] at h1
  simp only [val] at h1
  unfold readS
  rw [if_neg h0, h1]
  cases bg
  · obtain ⟨rfl, h7⟩ := h4 rfl
    rw [if_neg (by decide)]
    exact if_pos h7
  · have := h3 rfl
    rw [if_pos rfl]
    exact if_neg (by omega)
theorem left_step {l : List UInt8} {k : Nat} {m : Int} {bg : Bool} {ch : UInt8} (h : Left l k m bg) (hd : l.drop k = ch :: l.drop (k + 1)) (hc : 48 ≤ ch.toNat ∧ ch.toNat ≤ 57) :
    (bg = true ∨ (9223372036854775807 - ((ch.toNat : Int) - 48)) / 10 < m → Left l (k + 1) m true) ∧
    (bg = false → ¬ (9223372036854775807 - ((ch.toNat : Int) - 48)) / 10 < m → Left l (k + 1) (10 * m + ((ch.toNat : Int) - 48)) false) := by
  obtain ⟨v, h1, h2, h3, h4, h5, h6⟩ := h
  rw [hd] at h1
  simp only [val] at h1
  rw [if_pos hc] at h1
  constructor
  · intro hb
    refine ⟨10 * v + ((ch.toNat : Int) - 48), h1, by omega, fun _ => ?_, fun e => absurd e (by decide), h5, h6⟩
    cases bg
    · obtain ⟨rfl, h7⟩ := h4 rfl
      have := hb.resolve_left (by decide)
      omega
    · have := h3 rfl
      omega
  · intro hb hn
    obtain ⟨rfl, h7⟩ := h4 hb
    exact ⟨10 * m + ((ch.toNat : Int) - 48), h1, by omega, fun e => absurd e (by decide), fun _ => ⟨rfl, by omega⟩, by omega, by omega⟩
theorem ret_two {a b c d : Int} (h : (a, b) = (c, d)) : Ending.returned (.tuple #[.int .i64 a, .int .i64 b]) = .returned (.tuple #[.int .i64 c, .int .i64 d]) := by injection h with h1 h2; rw [h1, h2]
set_option maxHeartbeats 4000000 in
set_option maxRecDepth 100000 in
theorem read_is (s : ByteArray) (w : World) (hs : s.size ≤ 140737488355328) :
    Calls Tryd.prog 94 #[.string s] w fun e w' => e = .returned (.tuple #[.int .i64 (readS s.data.toList).1, .int .i64 (readS s.data.toList).2]) ∧ Below w.heap.size w w' := by
  obtain ⟨l, hl⟩ : ∃ l, s.data.toList = l := ⟨_, rfl⟩
  have hlen : s.size = l.length := by rw [← hl]; rfl
  have hconv := fun W => Lib.run_convert_string_bytes (P := Tryd.prog) W 9 45 5 s (u := .string) Tryd.underlying9 Tryd.underlying45 Tryd.underlying5
  by_cases h0 : l = []
  · have h1 : s.toList.isEmpty = true := by rw [ByteArray.toList_eq, hl, h0]; rfl
    have h2 : readS s.data.toList = (0, 1) := by rw [hl, h0]; rfl
    rw [h2]
    clear hconv hl h2 hlen h0
    go_enter Tryd.func94, Tryd.ntmps94
    go_wp2_with fail
    go_ret2
    exact ⟨rfl, Below.refl _ _⟩
  · have h1 : s.toList.isEmpty = false := by rw [ByteArray.toList_eq, hl]; cases l <;> simp_all
    rw [hl]
    obtain ⟨r, hr⟩ : ∃ r, readS l = r := ⟨_, rfl⟩
    rw [hr]
    obtain ⟨r1, r2⟩ := r
    have HR := Lib.hid hr
    have H0 := Lib.hid h0
    have HN := Lib.hid hlen
    have HL := Lib.hid hl
    obtain ⟨w2, hw2⟩ : ∃ w2, Lib.bytesWorld w 5 s = w2 := ⟨_, rfl⟩
    obtain ⟨g, hg⟩ : ∃ g, w.heap.size = g := ⟨_, rfl⟩
    obtain ⟨cp, hcp⟩ : ∃ c, grownCap w s.size 0 5 = c := ⟨_, rfl⟩
    have hc : (convert 9 45 (.string s)).run Tryd.prog w = .ok (.slice (some ⟨g, 0, none⟩) s.size cp) w2 := by rw [← hw2, ← hg, ← hcp]; exact hconv w
    have CELL := Lib.hid (fun (j : Nat) (hj : j < s.size) => (by rw [← hw2, ← hg]; exact Lib.bytesWorld_cell w 5 s j hj : w2.cell? ⟨g, j, none⟩ = some (.int .u8 (s.data.toList.getD j 0).toNat)))
    have BB := Lib.hid (show Below w.heap.size w w2 from by
      rw [← hw2]
      exact ⟨rfl, rfl, rfl, by rw [Lib.bytesWorld_size]; omega, fun k hk => Lib.bytesWorld_at_old w 5 s k hk⟩)
    clear hconv hw2 hg hcp hlen hl hr h0
    go_enter Tryd.func94, Tryd.ntmps94
    go_wp2_with fail
    go_loop [4, 5, 15] (fun n b i => ∃ (k : Nat) (m : Int) (bg : Bool), i = .int .i64 k ∧ k ≤ s.size ∧ n = .int .i64 m ∧ b = .bool bg ∧ 0 ≤ m ∧ m ≤ 9223372036854775807 ∧ Hid (Left l k m bg)) (fun _ _ i => s.size - (intOf i).toNat)
    case atStart => exact ⟨0, 0, false, rfl, by omega, rfl, rfl, by omega, by omega, Lib.hid ⟨0, rfl, by omega, fun h => absurd h (by decide), fun _ => ⟨rfl, by omega⟩, by omega, by omega⟩⟩
    case round =>
      obtain ⟨k, m, bg, rfl, hk, rfl, rfl, hm0, hm1, LF⟩ := hrel
      by_cases hx : (k : Int) < (s.size : Int)
      · have hlt : k < s.size := by omega
        have q := CELL.out k hlt
        obtain ⟨c, hc⟩ : ∃ c : Int, ((s.data.toList.getD k 0).toNat : Int) = c := ⟨_, rfl⟩
        have hcb : 0 ≤ c ∧ c ≤ 255 := by rw [← hc]; exact byte_bd _
        rw [hc] at q
        have hdr : l.drop k = (s.data.toList.getD k 0) :: l.drop (k + 1) := by rw [HL.out]; exact drop_get l k (by rw [← HN.out]; exact hlt)
        have HC := Lib.hid hc; have HD := Lib.hid hdr
        have hc0 := hcb.1; have hc1 := hcb.2
        clear hc hdr hcb
        by_cases c1 : c < 48
        · have p1 : decide (c < 48) = true := decide_eq_true c1
          go_wp2_with fail
          go_ret2
          exact ⟨ret_two ((left_bad LF.out H0.out HD.out (by have := HC.out; omega)).symm.trans HR.out), BB.out⟩
        · by_cases c2 : 57 < c
          · have p1 : decide (c < 48) = false := decide_eq_false c1
            have p2 : decide (57 < c) = true := decide_eq_true c2
            go_wp2_with fail
            go_ret2
            exact ⟨ret_two ((left_bad LF.out H0.out HD.out (by have := HC.out; omega)).symm.trans HR.out), BB.out⟩
          · have p1 : decide (c < 48) = false := decide_eq_false c1
            have p2 : decide (57 < c) = false := decide_eq_false c2
            cases bg
            · by_cases c3 : (9223372036854775807 - (c - 48)) / 10 < m
              · have p3 : decide ((9223372036854775807 - (c - 48)) / 10 < m) = true := decide_eq_true c3
                go_wp2_with fail
                go_round
                case rel => exact ⟨k + 1, m, true, by push_cast; rfl, by omega, rfl, rfl, hm0, hm1, Lib.hid ((left_step LF.out HD.out (by have := HC.out; omega)).1 (.inr (by rw [HC.out]; exact c3)))⟩
                case measure => simp [intOf]; omega
              · have p3 : decide ((9223372036854775807 - (c - 48)) / 10 < m) = false := decide_eq_false c3
                go_wp2_with fail
                go_round
                case rel => exact ⟨k + 1, 10 * m + (c - 48), false, by push_cast; rfl, by omega, rfl, rfl, by omega, by omega, Lib.hid (by have h := (left_step LF.out HD.out (by have := HC.out; omega)).2 rfl (by rw [HC.out]; exact c3); rw [HC.out] at h; exact h)⟩
                case measure => simp [intOf]; omega
            · go_wp2_with fail
              go_round
              case rel => exact ⟨k + 1, m, true, by push_cast; rfl, by omega, rfl, rfl, hm0, hm1, Lib.hid ((left_step LF.out HD.out (by have := HC.out; omega)).1 (.inl rfl))⟩
              case measure => simp [intOf]; omega
      · cases bg
        · go_wp2_with fail
          go_ret2
          exact ⟨ret_two ((left_end LF.out H0.out (List.drop_of_length_le (by rw [← HN.out]; omega))).symm.trans HR.out), BB.out⟩
        · go_wp2_with fail
          go_ret2
          exact ⟨ret_two ((left_end LF.out H0.out (List.drop_of_length_le (by rw [← HN.out]; omega))).symm.trans HR.out), BB.out⟩
/-- what is left is told by what has come, as the reference reckons. -/
def Left2 (l : List UInt8) (k : Nat) (n : Int) (far : Bool) : Prop :=
  ∃ v, val l 0 = val (l.drop k) v ∧ 0 ≤ v ∧ (far = true → 9223372036854775807 < v) ∧ (far = false → n = v) ∧ 0 ≤ n ∧ n ≤ 10000000000000000009
theorem left2_bad {l r : List UInt8} {k : Nat} {m : Int} {bg : Bool} {ch : UInt8} (h : Left2 l k m bg) (h0 : l ≠ []) (hd : l.drop k = ch :: r) (hc : ¬ (48 ≤ ch.toNat ∧ ch.toNat ≤ 57)) : readS l = (0, 1) := by
  obtain ⟨v, h1, _⟩ := h
  rw [hd] at h1
  simp only [val] at h1
  rw [if_neg hc] at h1
  unfold readS
  rw [if_neg h0, h1]
theorem left2_end {l : List UInt8} {k : Nat} {m : Int} {bg : Bool} (h : Left2 l k m bg) (h0 : l ≠ []) (hd : l.drop k = []) : readS l = if bg = true ∨ 9223372036854775808 ≤ m then (0, 2) else (m, 0) := by
  obtain ⟨v, h1, h2, h3, h4, h5, h6⟩ := h
  rw [hd] at h1
  simp only [val] at h1
  unfold readS
  rw [if_neg h0, h1]
  cases bg
  · obtain rfl := h4 rfl
    by_cases h7 : 9223372036854775808 ≤ m
    · rw [if_pos (.inr h7)]; exact if_neg (by omega)
    · rw [if_neg (fun e => e.elim (by decide) h7)]; exact if_pos (by omega)
  · have := h3 rfl
    rw [if_pos (.inl rfl)]
    exact if_neg (by omega)
theorem left2_step {l : List UInt8} {k : Nat} {m : Int} {bg : Bool} {ch : UInt8} (h : Left2 l k m bg) (hd : l.drop k = ch :: l.drop (k + 1)) (hc : 48 ≤ ch.toNat ∧ ch.toNat ≤ 57) :
    (bg = true ∨ 1000000000000000000 < m → Left2 l (k + 1) m true) ∧
    (bg = false → ¬ 1000000000000000000 < m → Left2 l (k + 1) (10 * m + ((ch.toNat : Int) - 48)) false) := by
  obtain ⟨v, h1, h2, h3, h4, h5, h6⟩ := h
  rw [hd] at h1
  simp only [val] at h1
  rw [if_pos hc] at h1
  constructor
  · intro hb
    refine ⟨10 * v + ((ch.toNat : Int) - 48), h1, by omega, fun _ => ?_, fun e => absurd e (by decide), h5, h6⟩
    cases bg
    · obtain rfl := h4 rfl
      have := hb.resolve_left (by decide)
      omega
    · have := h3 rfl
      omega
  · intro hb hn
    obtain rfl := h4 hb
    exact ⟨10 * m + ((ch.toNat : Int) - 48), h1, by omega, fun e => absurd e (by decide), fun _ => rfl, by omega, by omega⟩
end Go.Proofs.YtfofpammnfcmiaaDoor.E
