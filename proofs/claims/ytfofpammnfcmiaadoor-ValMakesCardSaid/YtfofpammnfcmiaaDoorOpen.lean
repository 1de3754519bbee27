/- What is read of an argument is of its kind: numbers, bools, strings, slices, structs. Generic in the program; no condition. -/
import Derived.Test.YtfofpammnfcmiaaDoorRows
import Derived.Test.YtfofpammnfcmiaaDoorWMore
import Derived.ProofKit
import Derived.OpenShut
import Derived.ShutString
import Derived.ChangeOld
import Derived.SizedLaws
import Derived.Deep.Slices
namespace Go.Proofs.YtfofpammnfcmiaaDoor.Open
open Go.RowKit Go.Proofs.YtfofpammnfcmiaaDoorW.PrintWords Go.Proofs.YtfofpammnfcmiaaDoorW.PrintLast
set_option linter.unusedVariables false

/-- What is read (with this fuel) of a value of type t is of the kind d, well formed, and of a bulk no greater than the datum's. -/
def OpensAt {α : Type} (fuel : Nat) (P : Program) (t : TypeId) (d : Kd α) (wf : α → Prop) (B : α → Nat) : Prop :=
  ∀ {H : Type} (enc : TypeId × Value → H) (W : World) (base : Nat) (spare : Nat → Bool) (held : Bool) (cs : List Value) (y : DataW H × List MemPlace),
    DataW.trod enc P W base spare held fuel t cs = some y → (∀ n ∈ y.1.weights P t, n ≤ reachBytes) → ∃ x, d.K W x cs ∧ wf x ∧ B x ≤ Rows.uptoBulk y.1

section
variable {P : Program} {t e : TypeId} {fuel : Nat}

theorem at_int (k : IntKind) (ht : P.underlying t = some (.int k)) : OpensAt fuel P t (Kd.int k) (fun x => (Lit.int k x).wf = true) (fun _ => 1) := by
  intro H enc W base spare held cs y h _
  obtain ⟨n, rfl, rfl, hw⟩ := DataW.trod_int ht h
  exact ⟨n, rfl, hw, by simp [Rows.uptoBulk]⟩
theorem at_ini64 (ht : P.underlying t = some (.int .i64)) : OpensAt fuel P t (Kd.int .i64) (fun x => -9223372036854775808 ≤ x ∧ x ≤ 9223372036854775807) (fun _ => 1) := by
  intro H enc W base spare held cs y h hw
  obtain ⟨x, hK, hwf, hB⟩ := at_int .i64 ht enc W base spare held cs y h hw
  exact ⟨x, hK, by simpa [Lit.wf, IntKind.min, IntKind.max, IntKind.signed, IntKind.bits] using hwf, hB⟩
theorem at_ini32 (ht : P.underlying t = some (.int .i32)) : OpensAt fuel P t (Kd.int .i32) (fun x => -2147483648 ≤ x ∧ x ≤ 2147483647) (fun _ => 1) := by
  intro H enc W base spare held cs y h hw
  obtain ⟨x, hK, hwf, hB⟩ := at_int .i32 ht enc W base spare held cs y h hw
  exact ⟨x, hK, by simpa [Lit.wf, IntKind.min, IntKind.max, IntKind.signed, IntKind.bits] using hwf, hB⟩
theorem at_inu64 (ht : P.underlying t = some (.int .u64)) : OpensAt fuel P t (Kd.int .u64) (fun x => 0 ≤ x ∧ x ≤ 18446744073709551615) (fun _ => 1) := by
  intro H enc W base spare held cs y h hw
  obtain ⟨x, hK, hwf, hB⟩ := at_int .u64 ht enc W base spare held cs y h hw
  exact ⟨x, hK, by simpa [Lit.wf, IntKind.min, IntKind.max, IntKind.signed, IntKind.bits] using hwf, hB⟩
theorem at_inu32 (ht : P.underlying t = some (.int .u32)) : OpensAt fuel P t (Kd.int .u32) (fun x => 0 ≤ x ∧ x ≤ 4294967295) (fun _ => 1) := by
  intro H enc W base spare held cs y h hw
  obtain ⟨x, hK, hwf, hB⟩ := at_int .u32 ht enc W base spare held cs y h hw
  exact ⟨x, hK, by simpa [Lit.wf, IntKind.min, IntKind.max, IntKind.signed, IntKind.bits] using hwf, hB⟩
theorem at_inu8 (ht : P.underlying t = some (.int .u8)) : OpensAt fuel P t (Kd.int .u8) (fun x => 0 ≤ x ∧ x ≤ 255) (fun _ => 1) := by
  intro H enc W base spare held cs y h hw
  obtain ⟨x, hK, hwf, hB⟩ := at_int .u8 ht enc W base spare held cs y h hw
  exact ⟨x, hK, by simpa [Lit.wf, IntKind.min, IntKind.max, IntKind.signed, IntKind.bits] using hwf, hB⟩
theorem at_inu16 (ht : P.underlying t = some (.int .u16)) : OpensAt fuel P t (Kd.int .u16) (fun x => 0 ≤ x ∧ x ≤ 65535) (fun _ => 1) := by
  intro H enc W base spare held cs y h hw
  obtain ⟨x, hK, hwf, hB⟩ := at_int .u16 ht enc W base spare held cs y h hw
  exact ⟨x, hK, by simpa [Lit.wf, IntKind.min, IntKind.max, IntKind.signed, IntKind.bits] using hwf, hB⟩
theorem opens_weak {α : Type} {d : Kd α} {wf wf' : α → Prop} {B : α → Nat} (h : OpensAt fuel P t d wf B) (hw : ∀ x, wf x → wf' x) : OpensAt fuel P t d wf' (fun _ => 0) := by
  intro H enc W base spare held cs y hy hz
  obtain ⟨x, hK, hwf, _⟩ := h enc W base spare held cs y hy hz
  exact ⟨x, hK, hw x hwf, Nat.zero_le _⟩
theorem at_bool (ht : P.underlying t = some .bool) : OpensAt fuel P t Kd.bool (fun _ => True) (fun _ => 1) := by
  intro H enc W base spare held cs y h _
  obtain ⟨b, rfl, rfl⟩ := DataW.trod_bool ht h
  exact ⟨b, rfl, trivial, by simp [Rows.uptoBulk]⟩
theorem at_string (ht : P.underlying t = some .string) : OpensAt fuel P t Kd.string (fun s => s.size ≤ 140737488351232) (fun s => s.size + 1) := by
  intro H enc W base spare held cs y h hw
  obtain ⟨s, rfl, rfl, hs⟩ := DataW.trod_string ht h
  refine ⟨s, rfl, ?_, ?_⟩
  · have := hw s.data.toList.length (by simp [DataW.weights])
    have hr : reachBytes = 140737488351232 := by decide
    simp at this
    have e1 : s.data.size = s.size := rfl
    omega
  · have e1 : s.data.size = s.size := rfl
    simp [Rows.uptoBulk, e1]

theorem choose_list {α : Type} {p : Nat → α → Prop} : ∀ n, (∀ i, i < n → ∃ x, p i x) → ∃ xs : List α, xs.length = n ∧ ∀ i x, xs[i]? = some x → p i x := by
  intro n
  induction n with
  | zero => intro _; exact ⟨[], rfl, fun i x h => by simp at h⟩
  | succ n ih =>
    intro h
    obtain ⟨xs, hl, hx⟩ := ih (fun i hi => h i (by omega))
    obtain ⟨z, hz⟩ := h n (by omega)
    refine ⟨xs ++ [z], by simp [hl], fun i x hi => ?_⟩
    rcases Nat.lt_or_ge i xs.length with hlt | hge
    · rw [List.getElem?_append_left hlt] at hi
      exact hx i x hi
    · have hlt := (List.getElem?_eq_some_iff.1 hi).1
      rw [List.length_append, List.length_singleton] at hlt
      obtain rfl : i = xs.length := by omega
      have : z = x := by simpa using hi
      subst this
      rw [hl]; exact hz

theorem sum_le {H α : Type} {B : α → Nat} : ∀ (xs : List α) (ds : List (DataW H)), xs.length = ds.length → (∀ (i : Nat) (x : α) (d : DataW H), xs[i]? = some x → ds[i]? = some d → B x ≤ Rows.uptoBulk d) → (xs.map B).sum ≤ Rows.uptoBulkAll ds
  | [], ds, _, _ => by simp
  | x :: xs, [], h, _ => by simp at h
  | x :: xs, d :: ds, h, hb => by
    have h1 := hb 0 x d rfl rfl
    have h2 := sum_le xs ds (by simpa using h) (fun i x' d' hx hd => hb (i + 1) x' d' (by simpa using hx) (by simpa using hd))
    simp only [List.map_cons, List.sum_cons, Rows.uptoBulkAll]
    omega

theorem weights_mem_all {H : Type} : ∀ (ds : List (DataW H)) (d : DataW H), d ∈ ds → ∀ n ∈ d.weights P e, n ∈ DataW.weightsAll P e ds
  | [], d, h, _, _ => by simp at h
  | d0 :: ds, d, h, n, hn => by
    simp only [DataW.weightsAll, List.mem_append]
    rcases List.mem_cons.1 h with rfl | h
    · exact .inl hn
    · exact .inr (weights_mem_all ds d h n hn)

theorem at_slice {α : Type} {d : Kd α} {wf : α → Prop} {B : α → Nat} {b : Nat} (ht : P.underlying t = some (.slice e)) (hc : P.cellsOf e = d.sz) (hb : P.bytesOf e = b) (h : ∀ m, m < fuel → OpensAt m P e d wf B) :
    OpensAt fuel P t (Kd.slice e d) (fun xs => xs.length * b ≤ 140737488351232 ∧ ∀ x ∈ xs, wf x) (fun xs => (xs.map B).sum + 1) := by
  intro H enc W base spare held cs y hy hw
  have hr : reachBytes = 140737488351232 := by decide
  rcases DataW.trod_slice ht hy with ⟨rfl, rfl⟩ | ⟨a, len, cap, elems, rest, n, rfl, rfl, rfl, hba, hl, hm, hlen, hel, _, _⟩
  · exact ⟨[], ⟨none, 0, rfl, by simp, Kd.C_nil d W⟩, ⟨by simp, fun x hx => by simp at hx⟩, by simp [Rows.uptoBulk]⟩
  have hws : ∀ n ∈ (elems.length + rest.length) * P.bytesOf e :: (DataW.weightsAll P e (elems.map (·.1)) ++ DataW.weightsAll P e (rest.map (·.1))), n ≤ reachBytes := by
    intro n hn
    apply hw n
    simp only [DataW.weights, ht, List.length_map]
    exact hn
  have key : ∀ i, i < len → ∃ x, ∃ c : List Value, c.length = d.sz ∧ d.K W x c ∧ (∀ j u, c[j]? = some u → W.cell? (a.add (i * d.sz + j)) = some u) ∧ wf x ∧ ∃ z, elems[i]? = some z ∧ B x ≤ Rows.uptoBulk z.1 := by
    intro i hi
    have he := hel i hi
    obtain ⟨z, hz⟩ : ∃ z, elems[i]? = some z := ⟨_, List.getElem?_eq_getElem (by omega)⟩
    rw [hz] at he
    obtain ⟨c, hcs, htr⟩ := Option.bind_eq_some_iff.1 he
    have hwz : ∀ n ∈ z.1.weights P e, n ≤ reachBytes := by
      intro n hn
      apply hws n
      refine List.mem_cons_of_mem _ (List.mem_append_left _ ?_)
      exact weights_mem_all _ z.1 (List.mem_map_of_mem (List.mem_of_getElem? hz)) n hn
    obtain ⟨x, hK, hwf, hB⟩ := h n (by omega) enc W base spare held c z htr hwz
    obtain ⟨hl1, hl2⟩ := World.cells?_some hcs
    refine ⟨x, c, d.K_len hK, hK, ?_, hwf, z, hz, hB⟩
    intro j u hu
    have hj := (List.getElem?_eq_some_iff.1 hu).1
    have := hl2.2 j (by rw [← hl2.1]; exact hj)
    rw [Deep.add_add, hc] at this
    rw [this, hu]
  obtain ⟨xs, hxl, hxs⟩ := choose_list len key
  refine ⟨xs, ⟨some a, cap, by rw [hxl], by omega, ?_⟩, ⟨?_, ?_⟩, ?_⟩
  · refine ⟨rfl, ?_, fun hn => ⟨a, rfl, fun j p hp => ?_⟩⟩
    · unfold maxLen at hm; omega
    · obtain ⟨c, h1, h2, h3, _⟩ := hxs j p hp
      exact ⟨c, h1, h2, h3⟩
  · have := hws _ (List.mem_cons_self)
    rw [hb, hlen] at this
    rw [hxl]
    have h2 : len * b ≤ (len + rest.length) * b := Nat.mul_le_mul_right _ (by omega)
    omega
  · intro x hx
    obtain ⟨i, hi⟩ := List.getElem?_of_mem hx
    obtain ⟨c, _, _, _, h4, _⟩ := hxs i x hi
    exact h4
  · have hs := sum_le (B := B) xs (elems.map (·.1)) (by simp [hxl, hlen]) (fun i x d' hx hd => by
      obtain ⟨c, _, _, _, _, z, hz, hzB⟩ := hxs i x hx
      rw [List.getElem?_map, hz] at hd
      simp only [Option.map_some, Option.some.injEq] at hd
      subst hd; exact hzB)
    simp only [Rows.uptoBulk]
    omega

/-- The fields from cell o on, in line. -/
def FieldsAt {α : Type} (fuel : Nat) (P : Program) (fs : List Field) (o : Nat) (d : Kd α) (wf : α → Prop) (B : α → Nat) : Prop :=
  ∀ {H : Type} (enc : TypeId × Value → H) (W : World) (base : Nat) (spare : Nat → Bool) (held : Bool) (cs : List Value) (ys : List (DataW H × List MemPlace)), ys.length = fs.length →
    (∀ (i : Nat) (f : Field), fs[i]? = some f → DataW.trod enc P W base spare held fuel f.type ((cs.drop f.offset).take (P.cellsOf f.type)) = ys[i]?) →
    (∀ n ∈ DataW.weightsEach P (fs.map (·.type)) (ys.map (·.1)), n ≤ reachBytes) → ∃ x, d.K W x ((cs.drop o).take d.sz) ∧ wf x ∧ B x ≤ Rows.uptoBulkAll (ys.map (·.1))

theorem fields_one {α : Type} {d : Kd α} {wf : α → Prop} {B : α → Nat} {f : Field} {o : Nat} (ho : f.offset = o) (hc : P.cellsOf f.type = d.sz) (h : OpensAt fuel P f.type d wf B) : FieldsAt fuel P [f] o d wf B := by
  intro H enc W base spare held cs ys hl hy hw
  match ys, hl with
  | [y], _ =>
    have h0 := hy 0 f rfl
    rw [ho, hc] at h0
    obtain ⟨x, hK, hwf, hB⟩ := h enc W base spare held _ y h0 (fun n hn => hw n (by simp [DataW.weightsEach, hn]))
    exact ⟨x, hK, hwf, by simp only [List.map_cons, List.map_nil, Rows.uptoBulkAll]; omega⟩

theorem fields_cons {α β : Type} {d : Kd α} {d2 : Kd β} {wf : α → Prop} {wf2 : β → Prop} {B : α → Nat} {B2 : β → Nat} {f : Field} {fs : List Field} {o o2 : Nat} (ho : f.offset = o) (hc : P.cellsOf f.type = d.sz) (ho2 : o + d.sz = o2)
    (h : OpensAt fuel P f.type d wf B) (h2 : FieldsAt fuel P fs o2 d2 wf2 B2) : FieldsAt fuel P (f :: fs) o (Kd.pair d d2) (fun x => wf x.1 ∧ wf2 x.2) (fun x => B x.1 + B2 x.2) := by
  intro H enc W base spare held cs ys hl hy hw
  match ys, hl with
  | y :: ys, hl =>
    have h0 := hy 0 f rfl
    rw [ho, hc] at h0
    obtain ⟨x, hK, hwf, hB⟩ := h enc W base spare held _ y h0 (fun n hn => hw n (by simp [DataW.weightsEach, hn]))
    obtain ⟨x2, hK2, hwf2, hB2⟩ := h2 enc W base spare held cs ys (by simpa using hl) (fun i f' hf => by simpa using hy (i + 1) f' (by simpa using hf)) (fun n hn => hw n (by simp [DataW.weightsEach, hn]))
    refine ⟨(x, x2), ⟨_, _, ?_, hK, hK2⟩, ⟨hwf, hwf2⟩, by simp only [List.map_cons, Rows.uptoBulkAll]; omega⟩
    show (cs.drop o).take (d.sz + d2.sz) = _
    rw [← ho2, List.take_add, List.drop_drop]

theorem at_struct {α β : Type} {d : Kd α} {wf : α → Prop} {B : α → Nat} {fs : Array Field} (g : β → α) (k : α → β) (hg : ∀ a, g (k a) = a) (ht : P.underlying t = some (.struct fs)) (hc : P.cellsOf t = d.sz)
    (h : ∀ m, m < fuel → FieldsAt m P fs.toList 0 d wf B) : OpensAt fuel P t (Kd.iso d g) (fun x => wf (g x)) (fun x => B (g x) + 1) := by
  intro H enc W base spare held cs y hy hw
  obtain ⟨xs, n, rfl, rfl, hl, hxl, hf⟩ := DataW.trod_struct ht hy
  obtain ⟨x, hK, hwf, hB⟩ := h n (by omega) enc W base spare held cs xs (by simpa using hxl) (fun i f hi => hf i f (by simpa using hi)) (fun n hn => hw n (by simpa [DataW.weights, ht] using hn))
  refine ⟨k x, ?_, by show wf (g (k x)); rw [hg]; exact hwf, by show B (g (k x)) + 1 ≤ _; rw [hg]; simp only [Rows.uptoBulk]; omega⟩
  show d.K W (g (k x)) cs
  rw [hg]
  rw [List.drop_zero, ← hc, ← hl, List.take_length] at hK
  exact hK
end
end Go.Proofs.YtfofpammnfcmiaaDoor.Open
