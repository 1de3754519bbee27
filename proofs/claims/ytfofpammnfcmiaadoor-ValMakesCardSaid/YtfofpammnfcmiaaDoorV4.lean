/- Marline, values: a right value's text, by the program. Conditions: as each says. -/
import Derived.Test.YtfofpammnfcmiaaDoorV3
import Derived.Test.YtfofpammnfcmiaaDoorSh6
import Derived.Test.YtfofpammnfcmiaaDoorNb
namespace Go.Proofs.YtfofpammnfcmiaaDoor.Vl
open Go.RowKit Go.Proofs.YtfofpammnfcmiaaDoorW.PrintWords Go.Proofs.YtfofpammnfcmiaaDoorW.PrintLast Go.Proofs.YtfofpammnfcmiaaDoorW.PrintMore Go.Proofs.YtfofpammnfcmiaaDoor.Kinds Go.Proofs.YtfofpammnfcmiaaDoor.Obj Go.Proofs.YtfofpammnfcmiaaDoor.E
set_option linter.unusedVariables false
set_option linter.unusedSimpArgs false
set_option maxRecDepth 100000
/-- texts with ', ' between them. -/
def jt : List (List UInt8) → List UInt8
  | [] => []
  | x :: r => x ++ (r.map (fun y => 44 :: 32 :: y)).flatten
theorem jt_snoc (xs : List (List UInt8)) (y : List UInt8) : jt (xs ++ [y]) = jt xs ++ (if xs = [] then y else 44 :: 32 :: y) := by
  cases xs with
  | nil => simp [jt]
  | cons x r => simp [jt]
abbrev tT : List UInt8 := [116, 114, 117, 101]
abbrev tF : List UInt8 := [102, 97, 108, 115, 101]
mutual
/-- a right value's text. -/
def txt : S67 → List UInt8
  | ⟨k, n, l⟩ => if k = 0 then Lib.itoa n else if k = 1 then (if n = 0 then tF else tT) else (if k = 3 then 123 else 91) :: (jt (txts l) ++ [if k = 3 then 125 else 93])
def txts : List S67 → List (List UInt8)
  | [] => []
  | x :: r => txt x :: txts r
end
theorem txts_map : ∀ l : List S67, txts l = l.map txt
  | [] => rfl
  | x :: l => by simp only [txts, List.map_cons, txts_map l]
inductive Wv : S67 → Prop
  | mk (x : S67) : In x.f1 → (∀ y ∈ x.f2, Wv y) → Wv x
theorem Wv.n {x : S67} (h : Wv x) : In x.f1 := by cases h; assumption
theorem Wv.kid {x y : S67} (h : Wv x) (hy : y ∈ x.f2) : Wv y := by cases h with | mk _ _ h2 => exact h2 y hy
theorem rightL_mem : ∀ (l : List S67), rightL l = true → ∀ y ∈ l, right y = true
  | [], _, y, hy => by simp at hy
  | x :: l, h, y, hy => by
    unfold rightL at h
    rw [Bool.and_eq_true] at h
    rcases List.mem_cons.1 hy with rfl | hy
    · exact h.1
    · exact rightL_mem l h.2 y hy
theorem isb_below {B b : Nat} {bs : List Value} {w w' : World} (h : Lib.IsBuilderF 112 5 B b bs w) (hb : Below w.heap.size w w') : Lib.IsBuilderF 112 5 B b bs w' := by
  have one : ∀ p, Lib.BuilderAtF 112 5 B b p bs w → Lib.BuilderAtF 112 5 B b p bs w' := by
    rintro p ⟨h1, v, h2, h3, h4⟩
    refine ⟨h1, v, (hb.block b (Array.getElem?_eq_some_iff.1 h2).1).trans h2, h3.kept (row := none) ⟨hb.os, hb.tape, hb.output, hb.size, fun k hk _ => hb.block k hk⟩ ?_, h4⟩
    cases h5 : v.ownBlock with
    | none => exact .inl rfl
    | some k => exact .inr (by simp)
  exact h.imp (one _) (one _)
theorem isf_lt {B b : Nat} {bs : List Value} {w : World} (h : Lib.IsBuilderF 112 5 B b bs w) : B ≤ b ∧ b < w.heap.size := by
  rcases h with h | h
  · exact ⟨h.1, h.lt⟩
  · exact ⟨h.1, h.lt⟩
theorem isb_lt {B b : Nat} {bs : List Value} {w : World} (h : Lib.IsBuilderF 112 5 B b bs w) : B ≤ b ∧ b < w.heap.size := by
  rcases h with h | h
  · exact ⟨h.1, h.lt⟩
  · exact ⟨h.1, h.lt⟩
/-- what writing a text leaves. -/
def WrP (B b : Nat) (bs : List Value) (l : List UInt8) (w : World) (e : Ending) (w' : World) : Prop := e = .returned (.tuple #[]) ∧ Lib.IsBuilderF 112 5 B b (bs ++ Lib.byteCells l) w' ∧ Below B w w' ∧ Lib.OthersKept 5 (some b) w w'
/-- what a call that writes new blocks alone leaves. -/
theorem ok_below {b : Option Nat} {w w' : World} (h : Below w.heap.size w w') : Lib.OthersKept 5 b w w' := fun k o hk _ _ => (h.block k (Array.getElem?_eq_some_iff.1 hk).1).trans hk
/-- a value in a variable stays. -/
theorem ok_blk {b g : Nat} {cs : Array Value} {w w' : World} (h : Lib.OthersKept 5 (some b) w w') (hg : w.heap[g]? = some (.cells cs 67 (0, 0))) (hb : w.heap[b]? = some (.cells cs 67 (0, 0)) → False) : w'.heap[g]? = some (.cells cs 67 (0, 0)) := by
  refine h g _ hg (fun e => ?_) (fun c fz e => ?_)
  · injection e with e; subst e; exact hb hg
  · injection e with _ e _; exact absurd e (by decide)
theorem strC (l : List UInt8) : Lib.strCells ⟨l.toArray⟩ = Lib.byteCells l := rfl
theorem bcl (l : List UInt8) : (Lib.byteCells l).length = l.length := by unfold Lib.byteCells; rw [List.length_map]
set_option maxHeartbeats 4000000 in
theorem write_int (x : S67) (A : Option Addr) (c B b : Nat) (bs : List Value) (w : World) (h0 : x.f0 = 0) (hn : In x.f1) (hi : Lib.IsBuilderF 112 5 B b bs w) (hlen : bs.length + (txt x).length ≤ 140737488355328) (hB : B ≤ w.heap.size) (hp : Pow w) :
    Calls Tryd.prog 75 #[.pointer (some ⟨b, 0, none⟩), v67 x.f0 x.f1 A x.f2.length c] w (WrP B b bs (txt x) w) := by
  have hu67 := Tryd.underlying67
  have et : txt x = Lib.itoa x.f1 := by cases x; simp only at h0; subst h0; simp [txt]
  rw [et] at hlen ⊢
  have hb1 := blk67 x A c w
  have TC := Lib.hid (text_calls x.f1 _ hn (Pow.below hp hb1))
  have HI := Lib.hid (isb_below hi hb1)
  have HB1 := Lib.hid hb1
  have HLEN := Lib.hid hlen; have HB := Lib.hid hB
  rw [h0]
  rw [h0] at TC HI HB1
  clear et hp hi hlen hB hb1 hn h0
  go_enter Tryd.func75, Tryd.ntmps75
  go_wp2_with fail
  refine TC.out.mono ?_
  rintro e w2 ⟨rfl, b2⟩
  have H2 := Lib.hid (isb_below HI.out b2)
  have B2 := Lib.hid (Below.mono (HB1.out.trans (b2.mono HB1.out.size)) HB.out)
  have O2 := Lib.hid (ok_below (b := some b) (HB1.out.trans (b2.mono HB1.out.size)))
  clear b2 TC HI
  go_wp2_with fail
  refine (Tryd.Builder_WriteString B b bs _ w2 H2.out (by show bs.length + (Lib.itoa x.f1).toArray.size ≤ _; rw [List.size_toArray]; exact HLEN.out) (Nat.le_trans HB.out B2.out.size)).mono ?_
  rintro e w3 ⟨rfl, h3, b3, o3⟩
  have H3 := Lib.hid h3
  have B3 := Lib.hid (B2.out.trans b3)
  have O3 := Lib.hid (O2.out.trans o3)
  clear h3 b3 o3
  go_wp2_with fail
  first | go_end0 | refine bodyPost_ret (results_none rfl _ _ _) rfl ?_
  exact ⟨rfl, .inr H3.out, B3.out, O3.out⟩
set_option maxHeartbeats 4000000 in
theorem write_bool (x : S67) (A : Option Addr) (c B b : Nat) (bs : List Value) (w : World) (h0 : x.f0 = 1) (hn : x.f1 = 0 ∨ x.f1 = 1) (hi : Lib.IsBuilderF 112 5 B b bs w) (hlen : bs.length + (txt x).length ≤ 140737488355328) (hB : B ≤ w.heap.size) :
    Calls Tryd.prog 75 #[.pointer (some ⟨b, 0, none⟩), v67 x.f0 x.f1 A x.f2.length c] w (WrP B b bs (txt x) w) := by
  have hu67 := Tryd.underlying67
  have et : txt x = if x.f1 = 0 then tF else tT := by cases x; simp only at h0; subst h0; simp [txt]
  rw [et] at hlen ⊢
  have hb1 := below_alloc (blk67 x A c w) (.cells #[.string ⟨tF.toArray⟩, .string ⟨tT.toArray⟩] 9)
  have HI := Lib.hid (isb_below hi hb1)
  have HB1 := Lib.hid (Below.mono hb1 hB)
  have O1 := Lib.hid (ok_below (b := some b) hb1)
  have HLEN := Lib.hid hlen; have HB := Lib.hid hB
  rw [h0]
  rw [h0] at HI HB1 O1
  clear et hi hlen hB hb1 h0
  rcases hn with hn | hn
  all_goals
    rw [hn]
    rw [hn] at HI HB1 O1
    have HN := Lib.hid hn
    clear hn
    go_enter Tryd.func75, Tryd.ntmps75
    go_wp2_with fail
    refine (Tryd.Builder_WriteString B b bs _ _ HI.out (by have h := HLEN.out; rw [HN.out] at h; exact h) (Nat.le_trans HB.out HB1.out.size)).mono ?_
    rintro e w3 ⟨rfl, h3, b3, o3⟩
    have H3 := Lib.hid h3
    have B3 := Lib.hid (HB1.out.trans b3)
    have O3 := Lib.hid (O1.out.trans o3)
    clear h3 b3 o3
    go_wp2_with fail
    first | go_end0 | refine bodyPost_ret (results_none rfl _ _ _) rfl ?_
    exact ⟨rfl, .inr H3.out, B3.out, O3.out⟩
theorem jt_take (xs : List (List UInt8)) (n : Nat) : (jt (xs.take n)).length ≤ (jt xs).length := by
  cases xs with
  | nil => simp
  | cons x r =>
    cases n with
    | zero => simp [jt]
    | succ n =>
      simp only [List.take_succ_cons, jt, List.length_append, List.map_take]
      have : ∀ (zs : List (List UInt8)) (k : Nat), ((zs.take k).flatten).length ≤ zs.flatten.length := by
        intro zs
        induction zs with
        | nil => intro k; simp
        | cons z zs ih => intro k; cases k with
          | zero => simp
          | succ k => have := ih k; simp only [List.take_succ_cons, List.flatten_cons, List.length_append]; omega
      have := this (r.map (fun y => 44 :: 32 :: y)) n
      omega
theorem txts_step (l : List S67) (n : Nat) (h : n < l.length) : (txts l).take (n + 1) = (txts l).take n ++ [txt (rd_T67 l n)] := by
  rw [txts_map, rd67_at l n h, List.take_succ_eq_append_getElem (by rw [List.length_map]; exact h), List.getElem_map]
theorem J_one (l : List S67) (n : Nat) (h : n < l.length) (h0 : n = 0) : jt ((txts l).take (n + 1)) = jt ((txts l).take n) ++ txt (rd_T67 l n) := by
  subst h0
  rw [txts_step l 0 h, jt_snoc, List.take_zero, if_pos rfl]
theorem J_more (l : List S67) (n : Nat) (h : n < l.length) (h0 : n ≠ 0) : jt ((txts l).take (n + 1)) = (jt ((txts l).take n) ++ [44, 32]) ++ txt (rd_T67 l n) := by
  have hne : (txts l).take n ≠ [] := by
    intro e
    have h1 := congrArg List.length e
    rw [List.length_take, txts_map, List.length_map, List.length_nil] at h1
    omega
  rw [txts_step l n h, jt_snoc, if_neg hne]
  simp
theorem wj {n L : Nat} (h : n < L) (hL : L ≤ 1048576) : wrap64 ((n : Int) + 1) = (n : Int) + 1 := by unfold wrap64; omega
set_option maxHeartbeats 8000000 in
theorem write_list (W0 : World) (x : S67) (A : Option Addr) (c b : Nat) (bs : List Value) (w : World) (h0 : x.f0 = 2 ∨ x.f0 = 3) (hi : Lib.IsBuilderF 112 5 W0.heap.size b bs w) (hlen : bs.length + (txt x).length ≤ 140737488355328) (hW : Below W0.heap.size W0 w) (hC : Kd.C k67 W0 A x.f2.length x.f2) (hL : x.f2.length ≤ 1048576)
    (ih : ∀ (y : S67) (D : Option Addr) (d : Nat) (bs' : List Value) (W : World), y ∈ x.f2 → y.f2.length ≤ d → Kd.C k67 W0 D y.f2.length y.f2 → Lib.IsBuilderF 112 5 W0.heap.size b bs' W → bs'.length + (txt y).length ≤ 140737488355328 → Below W0.heap.size W0 W → Calls Tryd.prog 75 #[.pointer (some ⟨b, 0, none⟩), v67 y.f0 y.f1 D y.f2.length d] W (WrP W0.heap.size b bs' (txt y) W)) :
    Calls Tryd.prog 75 #[.pointer (some ⟨b, 0, none⟩), v67 x.f0 x.f1 A x.f2.length c] w (WrP W0.heap.size b bs (txt x) w) := by
  have hu67 := Tryd.underlying67
  obtain ⟨op, hop⟩ : ∃ op : UInt8, (if x.f0 = 3 then 123 else 91) = op := ⟨_, rfl⟩
  obtain ⟨cl, hcl⟩ : ∃ cl : UInt8, (if x.f0 = 3 then 125 else 93) = cl := ⟨_, rfl⟩
  have et : txt x = op :: (jt (txts x.f2) ++ [cl]) := by
    rw [← hop, ← hcl]
    cases x; simp only at h0
    rcases h0 with h0 | h0 <;> subst h0 <;> simp [txt]
  rw [et] at hlen ⊢
  have hb1 := blk67 x A c w
  have HI := Lib.hid (isb_below hi hb1)
  have HW := Lib.hid (hW.trans (hb1.mono hW.size))
  have HW0 := Lib.hid hW
  have HLEN := Lib.hid hlen; have HC := Lib.hid hC; have IH := Lib.hid ih
  obtain ⟨L, hLL⟩ : ∃ L, x.f2.length = L := ⟨_, rfl⟩
  have EL := Lib.hid hLL
  have HLB := Lib.hid hL
  have OP := Lib.hid hop; have CL_ := Lib.hid hcl
  obtain ⟨w1, hw1⟩ : ∃ w1, w.alloc (.cells #[.int .i64 x.f0, .int .i64 x.f1, .slice A x.f2.length c] 67) = w1 := ⟨_, rfl⟩
  have HW1 := Lib.hid (show w.alloc (.cells #[.int .i64 x.f0, .int .i64 x.f1, .slice A L c] 67) = w1 by rw [← hLL]; exact hw1)
  have HB1 := Lib.hid hb1
  have HK1 := Lib.hid (show w1.heap[w.heap.size]? = some (.cells #[.int .i64 x.f0, .int .i64 x.f1, .slice A L c] 67 (0, 0)) by rw [← hw1, ← hLL]; exact blk_new w _)
  have HBN := Lib.hid (show b < w.heap.size from (isf_lt hi).2)
  rw [hw1] at HI HW HB1
  have G0 : Hid (w1.cell? ⟨w.heap.size, 0, none⟩ = some (.int .i64 x.f0) ∧ w1.cell? ⟨w.heap.size, 2, none⟩ = some (.slice A L c)) := Lib.hid (by
    have hk := blk_new w (.cells #[.int .i64 x.f0, .int .i64 x.f1, .slice A x.f2.length c] 67)
    rw [hw1] at hk
    exact ⟨(blk_cell hk 0).trans rfl, by rw [← hLL]; exact (blk_cell hk 2).trans rfl⟩)
  rw [hLL]
  have HOPN : Hid (x.f0 = 2 ∧ op = 91 ∧ cl = 93 ∨ x.f0 = 3 ∧ op = 123 ∧ cl = 125) := Lib.hid (by
    rcases h0 with h0 | h0
    · exact .inl ⟨h0, by rw [← hop, if_neg (by omega)], by rw [← hcl, if_neg (by omega)]⟩
    · exact .inr ⟨h0, by rw [← hop, if_pos h0], by rw [← hcl, if_pos h0]⟩)
  clear et hi hW hlen hC ih hL hb1 h0 hop hcl hw1
  rcases HOPN.out with ⟨k0, ho, hc⟩ | ⟨k0, ho, hc⟩
  all_goals
    obtain ⟨g0, g2⟩ := G0.out
    rw [k0] at g0
    have HK0 := Lib.hid k0; have HO := Lib.hid ho; have HCL := Lib.hid hc
    clear k0 HOPN ho hc
    obtain ⟨go, hgo⟩ : ∃ go, w.heap.size = go := ⟨_, rfl⟩
    rw [hgo] at HK1 g0 g2
    have HGO := Lib.hid hgo
    have NB := Lib.hid (show go ≠ b by have := HBN.out; omega)
    clear hgo
    go_enter Tryd.func75, Tryd.ntmps75
    go_upto_region 1 with (fail)
    rw [HW1.out, HGO.out]
    go_wp2_with fail
    refine (Tryd.Builder_WriteByte W0.heap.size b bs _ w1 HI.out (by have h := HLEN.out; simp only [List.length_cons, List.length_append, List.length_nil] at h; omega) HW.out.size).mono ?_
    rintro e w2 ⟨rfl, h2, b2, o2⟩
    have H2 : Hid (Lib.IsBuilderF 112 5 W0.heap.size b (bs ++ Lib.byteCells [op]) w2) := Lib.hid (by rw [HO.out]; exact .inr h2)
    have W2 := Lib.hid (HW.out.trans b2)
    have O2 := Lib.hid (Lib.OthersKept.trans (ok_below (b := some b) HB1.out) o2)
    have K2 := Lib.hid (o2 go _ HK1.out (fun e => NB.out (Option.some.inj e)) (fun c fz e => by injection e with _ e _; exact absurd e (by decide)))
    have g2 : w2.cell? ⟨go, 2, none⟩ = some (.slice A L c) := (blk_cell K2.out 2).trans rfl
    have SZ2 := Lib.hid (Nat.le_trans HB1.out.size b2.size)
    clear h2 b2 o2 g0
    go_wp2_with fail
    go_loopw [35] (fun i wr => ∃ n : Nat, i = .int .i64 n ∧ n ≤ L ∧ Hid (Lib.IsBuilderF 112 5 W0.heap.size b (bs ++ Lib.byteCells (op :: jt ((txts x.f2).take n))) wr) ∧ Hid (Below W0.heap.size W0 wr) ∧ Hid (Lib.OthersKept 5 (some b) w wr) ∧ Hid (w.heap.size ≤ wr.heap.size)) (fun i _ => L - (intOf i).toNat)
    case atStart => exact ⟨0, rfl, Nat.zero_le _, H2, W2, O2, SZ2⟩
    case round =>
      obtain ⟨n, rfl, hn, HI2, HWr, HO2, HSZ⟩ := hrel
      by_cases hx : (n : Int) < (L : Int)
      · have hx1 := decide_eq_true hx
        have hlt : n < x.f2.length := by rw [EL.out]; omega
        have hm := rd_mem x.f2 n hlt
        obtain ⟨ad, D, d, ea, x0, x1, x2, xl, xr⟩ := at_T67 HC.out (n : Int) (by omega) (by omega)
        have e1 := wj (n := n) (L := L) (by omega) (by rw [← EL.out]; exact HLB.out)
        have j1 := fun h => J_one x.f2 n hlt h
        have j2 := fun h => J_more x.f2 n hlt h
        obtain ⟨y, ey⟩ : ∃ y, rd_T67 x.f2 n = y := ⟨_, rfl⟩
        rw [ey] at x0 x1 x2 xl xr hm j1 j2
        replace x0 := at_later HWr.out x0; replace x1 := at_later HWr.out x1; replace x2 := at_later HWr.out x2
        rw [Int.toNat_natCast] at x0 x1 x2
        have XL := Lib.hid xl; have XR := Lib.hid xr; have HM := Lib.hid hm; have J1 := Lib.hid j1; have J2 := Lib.hid j2
        have hjl := jt_take (txts x.f2) (n + 1)
        have HJL := Lib.hid (show bs.length + (jt ((txts x.f2).take (n + 1))).length + 1 ≤ 140737488355328 by have h := HLEN.out; simp only [List.length_cons, List.length_append, List.length_nil] at h; omega)
        have qn : (0 : Int) ≤ (n : Int) := Int.natCast_nonneg n
        have HLT := Lib.hid (show n < L by omega)
        have HE1 := Lib.hid e1
        cases ea
        clear hm xl xr ey j1 j2 hjl hlt e1
        go_upto_region 13 with (fail)
        obtain ⟨gk, hgk⟩ : ∃ gk, wr.heap.size = gk := ⟨_, rfl⟩
        obtain ⟨wk, hwk, kk, bk⟩ : ∃ wk : World, wr.alloc (.cells #[.int .i64 y.f0, .int .i64 y.f1, .slice D y.f2.length d] 67) = wk ∧ wk.heap[gk]? = some (.cells #[.int .i64 y.f0, .int .i64 y.f1, .slice D y.f2.length d] 67 (0, 0)) ∧ Below wr.heap.size wr wk := ⟨_, rfl, by rw [← hgk]; exact blk_new wr _, blk67 y D d wr⟩
        rw [hwk, hgk]
        have IK := Lib.hid (isb_below HI2.out bk); have WK := Lib.hid (HWr.out.trans (bk.mono HWr.out.size)); have OK := Lib.hid (Lib.OthersKept.trans HO2.out (ok_below bk)); have KK := Lib.hid kk; have SK := Lib.hid (Nat.le_trans HSZ.out bk.size)
        have NK := Lib.hid (show gk ≠ b by have := (isf_lt HI2.out).2; omega)
        have u0 : wk.cell? ⟨gk, 0, none⟩ = some (.int .i64 y.f0) := (blk_cell kk 0).trans rfl
        have u1 : wk.cell? ⟨gk, 1, none⟩ = some (.int .i64 y.f1) := (blk_cell kk 1).trans rfl
        have u2 : wk.cell? ⟨gk, 2, none⟩ = some (.slice D y.f2.length d) := (blk_cell kk 2).trans rfl
        clear hgk hwk kk bk x0 x1 x2 HI2 HWr HO2
        by_cases hn0 : n = 0
        · have p0 : decide ((0 : Int) < (n : Int)) = false := decide_eq_false (by omega)
          have JJ := Lib.hid (J1.out hn0)
          have p1 : decide (0 < n) = false := decide_eq_false (by omega)
          clear hn0
          go_wp2_with fail
          refine (IH.out y D d _ wk HM.out XL.out XR.out IK.out (by have h := HJL.out; rw [JJ.out, List.length_append] at h; rw [List.length_append, bcl, List.length_cons]; omega) WK.out).mono ?_
          rintro e w5 ⟨rfl, h5, b5, o5⟩
          have H5 : Hid (Lib.IsBuilderF 112 5 W0.heap.size b (bs ++ Lib.byteCells (op :: jt ((txts x.f2).take (n + 1)))) w5) := Lib.hid (by rw [JJ.out, ← List.cons_append, Lib.byteCells_append, ← List.append_assoc]; exact h5)
          have S5 := Lib.hid (Nat.le_trans SK.out b5.size); have W5 := Lib.hid (WK.out.trans b5); have O5 := Lib.hid (Lib.OthersKept.trans OK.out o5)
          clear h5 b5 o5
          go_wp2_with fail
          go_roundw
          case rel => exact ⟨n + 1, by rw [HE1.out]; push_cast; rfl, HLT.out, H5, W5, O5, S5⟩
          case measure => rw [HE1.out]; have := HLT.out; simp [intOf]; omega
        · have p0 : decide ((0 : Int) < (n : Int)) = true := decide_eq_true (by omega)
          have JJ := Lib.hid (J2.out hn0)
          have p1 : decide (0 < n) = true := decide_eq_true (by omega)
          clear hn0
          go_wp2_with fail
          refine (Tryd.Builder_WriteString W0.heap.size b _ _ wk IK.out (by have h := HJL.out; rw [JJ.out, List.length_append, List.length_append] at h; simp only [List.length_cons, List.length_nil] at h; rw [List.length_append, bcl, List.length_cons]; show _ + 2 ≤ _; omega) WK.out.size).mono ?_
          rintro e w5 ⟨rfl, h5, b5, o5⟩
          have I5 : Hid (Lib.IsBuilderF 112 5 W0.heap.size b (bs ++ Lib.byteCells (op :: (jt ((txts x.f2).take n) ++ [44, 32]))) w5) := Lib.hid (by rw [← List.cons_append, Lib.byteCells_append, ← List.append_assoc]; exact .inr h5)
          have k5 := o5 gk _ KK.out (fun e => NK.out (Option.some.inj e)) (fun c fz e => by injection e with _ e _; exact absurd e (by decide))
          have u0 : w5.cell? ⟨gk, 0, none⟩ = some (.int .i64 y.f0) := (blk_cell k5 0).trans rfl
          have u1 : w5.cell? ⟨gk, 1, none⟩ = some (.int .i64 y.f1) := (blk_cell k5 1).trans rfl
          have u2 : w5.cell? ⟨gk, 2, none⟩ = some (.slice D y.f2.length d) := (blk_cell k5 2).trans rfl
          have S5 := Lib.hid (Nat.le_trans SK.out b5.size); have W5 := Lib.hid (WK.out.trans b5); have O5 := Lib.hid (Lib.OthersKept.trans OK.out o5)
          clear h5 b5 o5 k5
          go_wp2_with fail
          refine (IH.out y D d _ w5 HM.out XL.out XR.out I5.out (by have h := HJL.out; rw [JJ.out, List.length_append] at h; rw [List.length_append, bcl, List.length_cons]; omega) W5.out).mono ?_
          rintro e w6 ⟨rfl, h6, b6, o6⟩
          have H6 : Hid (Lib.IsBuilderF 112 5 W0.heap.size b (bs ++ Lib.byteCells (op :: jt ((txts x.f2).take (n + 1)))) w6) := Lib.hid (by rw [JJ.out, ← List.cons_append, Lib.byteCells_append, ← List.append_assoc]; exact h6)
          have S6 := Lib.hid (Nat.le_trans S5.out b6.size); have W6 := Lib.hid (W5.out.trans b6); have O6 := Lib.hid (Lib.OthersKept.trans O5.out o6)
          clear h6 b6 o6
          go_wp2_with fail
          go_roundw
          case rel => exact ⟨n + 1, by rw [HE1.out]; push_cast; rfl, HLT.out, H6, W6, O6, S6⟩
          case measure => rw [HE1.out]; have := HLT.out; simp [intOf]; omega
      · have hx1 := decide_eq_false hx
        have hne : n = L := by omega
        have HNE := Lib.hid hne
        clear hne
        have JT := Lib.hid (show (txts x.f2).take n = txts x.f2 from List.take_of_length_le (by rw [txts_map, List.length_map, EL.out, HNE.out]; exact Nat.le_refl _))
        have HI3 : Hid (Lib.IsBuilderF 112 5 W0.heap.size b (bs ++ Lib.byteCells (op :: jt (txts x.f2))) wr) := Lib.hid (by have h := HI2.out; rw [JT.out] at h; exact h)
        go_wp2_with fail
        refine (Tryd.Builder_WriteByte W0.heap.size b _ _ wr HI3.out (by have h := HLEN.out; simp only [List.length_cons, List.length_append, List.length_nil] at h; rw [List.length_append, bcl, List.length_cons]; omega) HWr.out.size).mono ?_
        rintro e w5 ⟨rfl, h5, b5, o5⟩
        have H5 : Hid (Lib.IsBuilderF 112 5 W0.heap.size b (bs ++ Lib.byteCells (op :: (jt (txts x.f2) ++ [cl]))) w5) := Lib.hid (by rw [← List.cons_append, Lib.byteCells_append, ← List.append_assoc, HCL.out]; exact .inr h5)
        have S5 := Lib.hid (Nat.le_trans HSZ.out b5.size); have W5 := Lib.hid (HWr.out.trans b5); have O5 := Lib.hid (Lib.OthersKept.trans HO2.out o5)
        clear h5 b5 o5
        go_wp2_with fail
        first | go_end0 | refine bodyPost_ret (results_none rfl _ _ _) rfl ?_
        exact ⟨rfl, H5.out, ⟨W5.out.os.trans HW0.out.os.symm, W5.out.tape.trans HW0.out.tape.symm, W5.out.output.trans HW0.out.output.symm, S5.out, fun k hk => (W5.out.block k hk).trans (HW0.out.block k hk).symm⟩, O5.out⟩
end Go.Proofs.YtfofpammnfcmiaaDoor.Vl
