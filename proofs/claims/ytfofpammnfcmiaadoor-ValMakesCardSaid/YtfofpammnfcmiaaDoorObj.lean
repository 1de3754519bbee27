/- Objects in memory: a block whose cells own rows; what may change in a call is the block and the rows that it owns, and what is new. No condition. -/
import Derived.Test.YtfofpammnfcmiaaDoorWMore
import Derived.Test.YtfofpammnfcmiaaDoorWKept
import Derived.WalkKit
import Derived.KernelRfl
import Derived.RowKit3
import Derived.Deep.LoopGhost
import Derived.Deep.QuietTactic
import Derived.Deep.DeepCutAuto
import Derived.BigQuiet
import Derived.RegionTactic
import Derived.ChangeAlike
import Derived.IntWalk
import Derived.Lib.Hide
import Derived.Outline
namespace Go.Proofs.YtfofpammnfcmiaaDoor.Obj
open Go.RowKit Go.Proofs.YtfofpammnfcmiaaDoorW.PrintWords Go.Proofs.YtfofpammnfcmiaaDoorW.PrintLast Go.Proofs.YtfofpammnfcmiaaDoorW.PrintMore

theorem ret_int {k : IntKind} {a b : Int} (h : a = b) : Ending.returned (.int k a) = .returned (.int k b) := by rw [h]
theorem ret_bool {a b : Bool} (h : a = b) : Ending.returned (.bool a) = .returned (.bool b) := by rw [h]
/-- Only blocks of F may have changed, and new ones. -/
structure Ch (F : Nat → Prop) (w w' : World) : Prop where
  os : w'.os = w.os
  tape : w'.tape = w.tape
  output : w'.output = w.output
  size : w.heap.size ≤ w'.heap.size
  block : ∀ k, k < w.heap.size → ¬ F k → w'.heap[k]? = w.heap[k]?
theorem Ch.refl (F : Nat → Prop) (w : World) : Ch F w w := ⟨rfl, rfl, rfl, Nat.le_refl _, fun _ _ _ => rfl⟩
theorem Ch.trans {F G : Nat → Prop} {a b c : World} (h : Ch F a b) (k : Ch G b c) (hG : ∀ i, G i → F i ∨ a.heap.size ≤ i) : Ch F a c :=
  ⟨k.os.trans h.os, k.tape.trans h.tape, k.output.trans h.output, Nat.le_trans h.size k.size, fun i hi hn => (k.block i (Nat.lt_of_lt_of_le hi h.size) (fun hg => (hG i hg).elim hn (fun hge => by omega))).trans (h.block i hi hn)⟩
theorem Ch.mono {F G : Nat → Prop} {a b : World} (h : Ch F a b) (hF : ∀ i, F i → G i) : Ch G a b := ⟨h.os, h.tape, h.output, h.size, fun i hi hn => h.block i hi (fun hf => hn (hF i hf))⟩
theorem Ch.drew {F : Nat → Prop} {a b : World} (h : Ch F a b) : Ch F a b.drew := ⟨h.os, h.tape, h.output, h.size, h.block⟩
theorem Ch.drewN {F : Nat → Prop} {a b : World} (h : Ch F a b) (n : Nat) : Ch F a (b.drewN n) := ⟨h.os, h.tape, h.output, h.size, h.block⟩
theorem Ch.setCell {F : Nat → Prop} {a b : World} (h : Ch F a b) {p : Addr} (hp : F p.block ∨ a.heap.size ≤ p.block) (u : Value) : Ch F a (b.setCell p u) :=
  h.trans (G := fun k => k = p.block) ⟨rfl, rfl, rfl, by simp [World.setCell], fun k _ hn => Below.heap_setCell _ _ _ _ hn⟩ (fun i hi => by rw [hi]; exact hp)
theorem Ch.below {F : Nat → Prop} {a b c : World} (h : Ch F a b) (k : Below b.heap.size b c) : Ch F a c :=
  h.trans (G := fun _ => False) ⟨k.os, k.tape, k.output, k.size, fun i hi _ => k.block i hi⟩ (fun _ hi => hi.elim)
theorem Ch.alloc {F : Nat → Prop} {a b : World} (h : Ch F a b) (o : Obj) : Ch F a (b.alloc o) := h.below (below_alloc (Below.refl _ _) o)
theorem Ch.grown {F : Nat → Prop} {a b c : World} {row : Option Nat} (h : Ch F a b) (k : b.grownBy c row) (hr : ∀ i, row = some i → F i ∨ a.heap.size ≤ i) : Ch F a c :=
  h.trans (G := fun i => row = some i) ⟨k.os, k.tape, k.output, k.size, fun i hi hn => k.block i hi (fun e => hn e.symm)⟩ hr
theorem Ch.of_below {F : Nat → Prop} {a b : World} (k : Below a.heap.size a b) : Ch F a b := (Ch.refl F a).below k
/-- What was there is as it was, where all that may have changed is new. -/
theorem Ch.to_below {F : Nat → Prop} {w a b : World} (h : Below w.heap.size w a) (k : Ch F a b) (hF : ∀ i, F i → w.heap.size ≤ i) : Below w.heap.size w b :=
  h.trans ⟨k.os, k.tape, k.output, k.size, fun i hi => k.block i (Nat.lt_of_lt_of_le hi h.size) (fun hf => by have := hF i hf; omega)⟩
theorem Ch.blk {F : Nat → Prop} {a b : World} {g : Nat} {o : Obj} (h : Ch F a b) (hb : a.heap[g]? = some o) (hn : ¬ F g) : b.heap[g]? = some o := (h.block g (blk_lt hb) hn).trans hb

/-- The block g, and the rows that its cells own. -/
def Foot (w : World) (g k : Nat) : Prop := k = g ∨ ∃ cs t, w.heap[g]? = some (.cells cs t (0, 0)) ∧ ∃ v ∈ cs.toList, v.ownBlock = some k
theorem Foot.self (w : World) (g : Nat) : Foot w g g := .inl rfl
theorem Foot.of {w : World} {g k : Nat} {cs : Array Value} {t : TypeId} (hb : w.heap[g]? = some (.cells cs t (0, 0))) (h : Foot w g k) : k = g ∨ ∃ v ∈ cs.toList, v.ownBlock = some k := by
  rcases h with h | ⟨cs', t', hb', h⟩
  · exact .inl h
  · rw [hb] at hb'
    injection hb' with hb'
    injection hb' with hc
    subst hc
    exact .inr h
theorem Foot.mk {w : World} {g k : Nat} {cs : Array Value} {t : TypeId} (hb : w.heap[g]? = some (.cells cs t (0, 0))) {v : Value} (hv : v ∈ cs.toList) (h : v.ownBlock = some k) : Foot w g k := .inr ⟨cs, t, hb, v, hv, h⟩
/-- An object that stands as it stood has the same rows. -/
theorem Foot.same {w w' : World} {g k : Nat} (h : w'.heap[g]? = w.heap[g]?) : Foot w' g k ↔ Foot w g k := by unfold Foot; rw [h]

/-- A call on the object at g: only it and its rows may have changed; its rows are the old ones, or new. -/
def Upd (g : Nat) (w w' : World) : Prop := Ch (Foot w g) w w' ∧ ∀ k, Foot w' g k → Foot w g k ∨ w.heap.size ≤ k
theorem Upd.refl (g : Nat) (w : World) : Upd g w w := ⟨Ch.refl _ _, fun _ h => .inl h⟩
theorem Upd.trans {g : Nat} {a b c : World} (h : Upd g a b) (k : Upd g b c) : Upd g a c :=
  ⟨h.1.trans k.1 h.2, fun i hi => (k.2 i hi).elim (h.2 i) (fun hge => .inr (Nat.le_trans h.1.size hge))⟩
theorem Upd.drew {g : Nat} {a b : World} (h : Upd g a b) : Upd g a b.drew := ⟨h.1.drew, h.2⟩
theorem Upd.drewN {g : Nat} {a b : World} (h : Upd g a b) (n : Nat) : Upd g a (b.drewN n) := ⟨h.1.drewN n, h.2⟩

section
variable {α : Type} {d : Kd α} {e : Nat} {w w' : World} {v : Value} {xs : List α}
/-- A row of one's own, wherever. -/
abbrev Row (d : Kd α) (e : Nat) (w : World) (v : Value) (xs : List α) : Prop := Kd.R d e w 0 (fun _ => True) v xs
theorem Row.lt (h : Row d e w v xs) {k : Nat} (hk : v.ownBlock = some k) : k < w.heap.size := by
  obtain ⟨_, inner, ho, _⟩ := h
  exact own_lt ho k hk
/-- A row of flat elements over a change of other blocks. -/
theorem Row.ch {F : Nat → Prop} (h : Row d e w v xs) (hE : d.E = []) (hc : Ch F w w') (hn : ∀ k, v.ownBlock = some k → ¬ F k) : Row d e w' v xs :=
  Kd.R_mono (Kd.R_step (Kd.R_tight hE h) (fun k hk hlt => hc.block k hlt (hn k hk.symm))) (fun _ _ => trivial)
end

/-- A field's row appended to, and stored back. -/
theorem upd_field {w w1 : World} {g j : Nat} {t : TypeId} {cs : Array Value} {v v1 : Value} (hb : w.heap[g]? = some (.cells cs t (0, 0))) (hv : v ∈ cs.toList) (hne : some g ≠ v.ownBlock) (hg : w.grownBy w1 v.ownBlock)
    (hat : v1.ownBlock = v.ownBlock ∨ ∃ b, v1.ownBlock = some b ∧ w.heap.size ≤ b) :
    (w1.setCell ⟨g, j, none⟩ v1).heap[g]? = some (.cells (cs.setIfInBounds j v1) t (0, 0)) ∧ Upd g w (w1.setCell ⟨g, j, none⟩ v1) := by
  have hb1 := blk_grown hb hg hne
  have hb2 := blk_set hb1 j v1
  refine ⟨hb2, ((Ch.refl (Foot w g) w).grown hg (fun i e => .inl (Foot.mk hb hv e))).setCell (.inl (Foot.self w g)) v1, fun k hk => ?_⟩
  rcases Foot.of hb2 hk with rfl | ⟨u, hu, hq⟩
  · exact .inl (Foot.self w _)
  · have hu' : u ∈ cs.setIfInBounds j v1 := Array.mem_toList_iff.1 hu
    rcases Array.mem_or_eq_of_mem_setIfInBounds hu' with h | rfl
    · exact .inl (Foot.mk hb (Array.mem_toList_iff.2 h) hq)
    · rcases hat with e | ⟨b, e, hle⟩
      · exact .inl (Foot.mk hb hv (e ▸ hq))
      · rw [e] at hq
        injection hq with hq
        exact .inr (hq ▸ hle)
/-- A scalar cell of the object is stored into. -/
theorem upd_cell {w : World} {g j : Nat} {t : TypeId} {cs : Array Value} {u : Value} (hb : w.heap[g]? = some (.cells cs t (0, 0))) (hu : u.ownBlock = none) :
    (w.setCell ⟨g, j, none⟩ u).heap[g]? = some (.cells (cs.setIfInBounds j u) t (0, 0)) ∧ Upd g w (w.setCell ⟨g, j, none⟩ u) := by
  have hb2 := blk_set hb j u
  refine ⟨hb2, (Ch.refl (Foot w g) w).setCell (.inl (Foot.self w g)) u, fun k hk => ?_⟩
  rcases Foot.of hb2 hk with rfl | ⟨x, hx, hq⟩
  · exact .inl (Foot.self w _)
  · rcases Array.mem_or_eq_of_mem_setIfInBounds (Array.mem_toList_iff.1 hx) with h | rfl
    · exact .inl (Foot.mk hb (Array.mem_toList_iff.2 h) hq)
    · rw [hu] at hq; cases hq
/-- A row of the object is stored into. -/
theorem upd_row {w w1 : World} {g : Nat} {t : TypeId} {cs : Array Value} {v : Value} (hb : w.heap[g]? = some (.cells cs t (0, 0))) (hv : v ∈ cs.toList) (hne : some g ≠ v.ownBlock) (hg : w.grownBy w1 v.ownBlock) :
    w1.heap[g]? = some (.cells cs t (0, 0)) ∧ Upd g w w1 := by
  have hb1 := blk_grown hb hg hne
  exact ⟨hb1, (Ch.refl (Foot w g) w).grown hg (fun i e => .inl (Foot.mk hb hv e)), fun k hk => (Foot.of hb1 hk).elim (fun e => .inl (.inl e)) (fun ⟨u, hu, e⟩ => .inl (Foot.mk hb hu e))⟩
end Go.Proofs.YtfofpammnfcmiaaDoor.Obj
