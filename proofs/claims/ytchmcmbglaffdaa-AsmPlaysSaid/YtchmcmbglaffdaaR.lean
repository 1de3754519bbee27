/- Marline, layer 27: the walk of AsmPlays: for all lists of calls it answers true. No condition. -/
import Derived.Test.YtchmcmbglaffdaaQ
import Derived.Test.YtchmcmbglaffdaaW0
namespace Go.Proofs.Ytchmcmbglaffdaa.M
open Go.RowKit Go.Proofs.YtchmcmbglaffdaaW.PrintWords Go.Proofs.YtchmcmbglaffdaaW.PrintLast Go.Proofs.YtchmcmbglaffdaaW.PrintMore Go.Proofs.Ytchmcmbglaffdaa.Kinds Go.Proofs.Ytchmcmbglaffdaa.Obj Go.Proofs.Ytchmcmbglaffdaa.PA
set_option linter.unusedVariables false
set_option linter.unusedSimpArgs false

/-- the document's assembly with its cells. -/
def Rfv (w : World) (h : Nat) (v0 v1 v2 : Value) (L : List S36) (To LB : List Int) : Prop :=
  w.heap[h]? = some (.cells #[v0, v1, v2] 29 (0, 0)) ∧ Row k36 36 w v0 L ∧ Row (Kd.int .i64) 3 w v1 To ∧ Row (Kd.int .i64) 3 w v2 LB ∧ ∀ k, v1.ownBlock = some k → v2.ownBlock ≠ some k
theorem Rfv.rf {w : World} {h : Nat} {v0 v1 v2 : Value} {L : List S36} {To LB : List Int} (r : Rfv w h v0 v1 v2 L To LB) : Rf w h L To LB := ⟨v0, v1, v2, r⟩
theorem Rfv.ch {w w' : World} {h : Nat} {v0 v1 v2 : Value} {L : List S36} {To LB : List Int} {F : Nat → Prop} (r : Rfv w h v0 v1 v2 L To LB) (hc : Ch F w w') (hF : ∀ k, Foot w h k → ¬ F k) : Rfv w' h v0 v1 v2 L To LB := by
  obtain ⟨hb, h0, h1, h2, ap⟩ := r
  exact ⟨hc.blk hb (hF _ (Foot.self _ _)), h0.ch rfl hc (fun k e => hF k (Foot.mk hb (by simp) e)), h1.ch rfl hc (fun k e => hF k (Foot.mk hb (by simp) e)), h2.ch rfl hc (fun k e => hF k (Foot.mk hb (by simp) e)), ap⟩
theorem Rfv.below {w w' : World} {h : Nat} {v0 v1 v2 : Value} {L : List S36} {To LB : List Int} (r : Rfv w h v0 v1 v2 L To LB) (hb : Below w.heap.size w w') : Rfv w' h v0 v1 v2 L To LB := r.ch (Ch.of_below (F := fun _ => False) hb) (fun _ _ h => h)
theorem ne_new {w : World} {v v1 v2 : Value} (ap : ∀ k, v1.ownBlock = some k → v2.ownBlock ≠ some k) (hlt : ∀ k, v2.ownBlock = some k → k < w.heap.size) (hat : v.ownBlock = v1.ownBlock ∨ ∃ b, v.ownBlock = some b ∧ w.heap.size ≤ b) : ∀ k, v.ownBlock = some k → v2.ownBlock ≠ some k := by
  intro k hk hk2
  rcases hat with e | ⟨b, e, hle⟩
  · exact ap k (e ▸ hk) hk2
  · rw [e] at hk
    injection hk with hk
    have := hlt k hk2
    omega
theorem ty_ne {α β : Type} {d : Kd α} {d' : Kd β} {e e' : Nat} {w : World} {v v' : Value} {xs : List α} {ys : List β} (h : Row d e w v xs) (h' : Row d' e' w v' ys) (he : e ≠ e') : ∀ k, v.ownBlock = some k → v'.ownBlock ≠ some k := by
  intro k hk hk'
  obtain ⟨c, hc⟩ := Kd.R_typed h k hk
  obtain ⟨c', hc'⟩ := Kd.R_typed h' k hk'
  rw [hc] at hc'
  injection hc' with hc'
  injection hc' with _ h
  exact he h
section
variable {w w1 : World} {h : Nat} {v0 v1 v2 v : Value} {L L' : List S36} {To To' LB LB' : List Int}
theorem row_grown {α : Type} {d : Kd α} {e : Nat} {u x : Value} {xs : List α} (hr : Row d e w u xs) (hE : d.E = []) (hg : w.grownBy w1 x.ownBlock) (ap : ∀ k, x.ownBlock = some k → u.ownBlock ≠ some k) : Row d e w1 u xs :=
  hr.ch hE ((Ch.refl (fun i => x.ownBlock = some i) w).grown hg (fun i e => .inl e)) (fun k e hF => ap k hF e)
theorem Rfv.app0 (r : Rfv w h v0 v1 v2 L To LB) (ho : Row k36 36 w1 v L') (hg : w.grownBy w1 v0.ownBlock) (hat : v.ownBlock = v0.ownBlock ∨ ∃ b, v.ownBlock = some b ∧ w.heap.size ≤ b) :
    Rfv (w1.setCell ⟨h, 0, none⟩ v) h v v1 v2 L' To LB ∧ Upd h w (w1.setCell ⟨h, 0, none⟩ v) := by
  obtain ⟨hb, h0, h1, h2, ap⟩ := r
  have hb1 := blk_grown hb hg (Kd.R_ne h0 hb (by decide))
  obtain ⟨hb2, hU⟩ := upd_field (j := 0) hb (by simp) (Kd.R_ne h0 hb (by decide)) hg hat
  exact ⟨⟨hb2, Kd.R_set ho hb1 (by decide) _ _, Kd.R_set (row_grown h1 rfl hg (ty_ne h0 h1 (by decide))) hb1 (by decide) _ _, Kd.R_set (row_grown h2 rfl hg (ty_ne h0 h2 (by decide))) hb1 (by decide) _ _, ap⟩, hU⟩
theorem Rfv.app1 (r : Rfv w h v0 v1 v2 L To LB) (ho : Row (Kd.int .i64) 3 w1 v To') (hg : w.grownBy w1 v1.ownBlock) (hat : v.ownBlock = v1.ownBlock ∨ ∃ b, v.ownBlock = some b ∧ w.heap.size ≤ b) :
    Rfv (w1.setCell ⟨h, 1, none⟩ v) h v0 v v2 L To' LB ∧ Upd h w (w1.setCell ⟨h, 1, none⟩ v) := by
  obtain ⟨hb, h0, h1, h2, ap⟩ := r
  have hb1 := blk_grown hb hg (Kd.R_ne h1 hb (by decide))
  obtain ⟨hb2, hU⟩ := upd_field (j := 1) hb (by simp) (Kd.R_ne h1 hb (by decide)) hg hat
  exact ⟨⟨hb2, Kd.R_set (row_grown h0 rfl hg (ty_ne h1 h0 (by decide))) hb1 (by decide) _ _, Kd.R_set ho hb1 (by decide) _ _, Kd.R_set (row_grown h2 rfl hg ap) hb1 (by decide) _ _, ne_new ap (fun k hk => h2.lt hk) hat⟩, hU⟩
theorem Rfv.app2 (r : Rfv w h v0 v1 v2 L To LB) (ho : Row (Kd.int .i64) 3 w1 v LB') (hg : w.grownBy w1 v2.ownBlock) (hat : v.ownBlock = v2.ownBlock ∨ ∃ b, v.ownBlock = some b ∧ w.heap.size ≤ b) :
    Rfv (w1.setCell ⟨h, 2, none⟩ v) h v0 v1 v L To LB' ∧ Upd h w (w1.setCell ⟨h, 2, none⟩ v) := by
  obtain ⟨hb, h0, h1, h2, ap⟩ := r
  have hb1 := blk_grown hb hg (Kd.R_ne h2 hb (by decide))
  obtain ⟨hb2, hU⟩ := upd_field (j := 2) hb (by simp) (Kd.R_ne h2 hb (by decide)) hg hat
  have ap' := ne_new (fun k e e' => ap k e' e) (fun k hk => h1.lt hk) hat
  exact ⟨⟨hb2, Kd.R_set (row_grown h0 rfl hg (ty_ne h2 h0 (by decide))) hb1 (by decide) _ _, Kd.R_set (row_grown h1 rfl hg (fun k e e' => ap k e' e)) hb1 (by decide) _ _, Kd.R_set ho hb1 (by decide) _ _, fun k e e' => ap' k e' e⟩, hU⟩
theorem Rfv.put2 (r : Rfv w h v0 v1 v2 L To LB) (ho : Row (Kd.int .i64) 3 w1 v2 LB') (hg : w.grownBy w1 v2.ownBlock) :
    Rfv w1 h v0 v1 v2 L To LB' ∧ Upd h w w1 := by
  obtain ⟨hb, h0, h1, h2, ap⟩ := r
  obtain ⟨hb2, hU⟩ := upd_row hb (by simp) (Kd.R_ne h2 hb (by decide)) hg
  exact ⟨⟨hb2, row_grown h0 rfl hg (ty_ne h2 h0 (by decide)), row_grown h1 rfl hg (fun k e e' => ap k e' e), ho, ap⟩, hU⟩
theorem Rfv.cells (r : Rfv w h v0 v1 v2 L To LB) : w.cell? ⟨h, 0, none⟩ = some v0 ∧ w.cell? ⟨h, 1, none⟩ = some v1 ∧ w.cell? ⟨h, 2, none⟩ = some v2 := cells3 r.1
end
theorem jOf_len : ∀ (ts : List Int) (n : Int), (jOf n ts).length ≤ ts.length
  | [], n => Nat.le_refl _
  | a :: ts, n => by
    have := jOf_len ts (n + 1)
    rw [jOf]
    split
    · simp; omega
    · simp; omega
theorem wrap_toInt (b : BitVec 64) : IntKind.i64.wrap (b.toNat : Int) = b.toInt := by
  have hlt : b.toNat < 18446744073709551616 := b.isLt
  unfold IntKind.wrap
  rw [BitVec.toInt_eq_toNat_cond]
  have e : (b.toNat : Int) % 2 ^ IntKind.i64.bits = b.toNat := Int.emod_eq_of_lt (by omega) (by show (b.toNat : Int) < 18446744073709551616; omega)
  simp only [e]
  show (if (true && decide ((b.toNat : Int) ≥ 9223372036854775808)) = true then (b.toNat : Int) - 18446744073709551616 else (b.toNat : Int)) = _
  rw [Bool.true_and]
  by_cases h : (b.toNat : Int) ≥ 9223372036854775808
  · rw [if_pos (decide_eq_true h), if_neg (by omega)]; rfl
  · rw [if_neg (by simp; omega), if_pos (by omega)]
theorem xor_is (a : Int) : bits .xor .i64 a 1 = (BitVec.ofInt 64 a ^^^ BitVec.ofInt 64 1).toInt := wrap_toInt _
theorem xor_twice (a : Int) (h : -9223372036854775808 ≤ a ∧ a ≤ 9223372036854775807) : bits .xor .i64 (bits .xor .i64 a 1) 1 = a := by
  rw [xor_is, xor_is, BitVec.ofInt_toInt, BitVec.xor_assoc, BitVec.xor_self, BitVec.xor_zero, BitVec.toInt_ofInt, Int.bmod_def]
  have e : (((2 ^ 64 : Nat) : Int)) = 18446744073709551616 := by decide
  rw [e]
  split <;> omega
theorem rd36_set0 (l : List S36) (x : S36) (h : 0 < l.length) : rd_T36 (l.set 0 x) 0 = x := by
  cases l with
  | nil => simp at h
  | cons a l => rfl
theorem set36_back (l : List S36) (x : S36) (h : 0 < l.length) : (l.set 0 x).set 0 (rd_T36 l 0) = l := by
  cases l with
  | nil => simp at h
  | cons a l => rfl
theorem endL_f3 (lb : List Int) : ∀ (J : List S49) (out o : List S36), endL lb J out = some o → o.map (·.f3) = out.map (·.f3)
  | [], out, o, h => by rw [endL] at h; injection h with h; rw [h]
  | j :: js, out, o, h => by
    rw [endL] at h
    split at h
    · cases h
    · rw [endL_f3 lb js _ o h, List.map_set]
      refine List.ext_getElem? fun i => ?_
      rw [List.getElem?_set]
      split
      · rename_i e
        subst e
        unfold rd_T36
        split
        · rename_i hlt
          rw [List.length_map] at hlt
          rw [List.getElem?_map, List.getElem?_eq_getElem hlt, List.getD_eq_getElem?_getD, List.getElem?_eq_getElem hlt]; rfl
        · rename_i hlt
          rw [List.length_map] at hlt
          rw [List.getElem?_eq_none (by rw [List.length_map]; omega)]
      · rfl
theorem cells4 {w : World} {g : Nat} {v0 v1 v2 v3 : Value} {t : Nat} (h : w.heap[g]? = some (.cells #[v0, v1, v2, v3] t (0, 0))) : w.cell? ⟨g, 0, none⟩ = some v0 ∧ w.cell? ⟨g, 1, none⟩ = some v1 ∧ w.cell? ⟨g, 2, none⟩ = some v2 ∧ w.cell? ⟨g, 3, none⟩ = some v3 :=
  ⟨(blk_cell h 0).trans rfl, (blk_cell h 1).trans rfl, (blk_cell h 2).trans rfl, (blk_cell h 3).trans rfl⟩
end Go.Proofs.Ytchmcmbglaffdaa.M
