/- How this seat's arguments are opened: an array of two, and what the walks want of a value. No condition. -/
import Derived.Test.YtggdpeeiioibgaaOpen
import Derived.Test.YtggdpeeiioibgaaK
import Derived.Test.YtggdpeeiioibgaaV1
import Derived.Test.YtggdpeeiioibgaaKq
import Derived.WideShapes
namespace Go.Proofs.Ytggdpeeiioibgaa.Opn
open Go.RowKit Go.Proofs.YtggdpeeiioibgaaW.PrintWords Go.Proofs.YtggdpeeiioibgaaW.PrintLast Go.Proofs.Ytggdpeeiioibgaa.Open Go.Proofs.Ytggdpeeiioibgaa.Kinds
set_option linter.unusedVariables false
/-- what is known of a value of type 24 that was read, and of all below it. -/
inductive wf24 : S24 → Prop
  | mk (x : S24) : (-9223372036854775808 ≤ x.f0 ∧ x.f0 ≤ 9223372036854775807) → (-9223372036854775808 ≤ x.f1 ∧ x.f1 ≤ 9223372036854775807) → x.f2.length * 40 ≤ 140737488351232 → (∀ y ∈ x.f2, wf24 y) → wf24 x
set_option maxRecDepth 100000 in
theorem opens24 : ∀ fuel, OpensAt fuel Try.prog 24 k24 wf24 (fun _ => 0) := by
  intro fuel
  induction fuel using Nat.strongRecOn with
  | _ fuel ih =>
  intro H enc W base spare held cs y hy hw
  obtain ⟨x, hK, hwf, _⟩ := at_struct (fuel := fuel) (fun x : S24 => (x.f0, x.f1, x.f2)) (fun z => ⟨z.1, z.2.1, z.2.2⟩) (fun _ => rfl) Try.underlying24 (by kernel_rfl) (fun m hm => (fields_cons rfl (by kernel_rfl) rfl (at_ini64 Try.underlying3) (fields_cons rfl (by kernel_rfl) rfl (at_ini64 Try.underlying3) (fields_one rfl (by kernel_rfl) (at_slice Try.underlying22 (by kernel_rfl) (by kernel_rfl) (fun q_ hq_ => ih q_ (by omega))))))) enc W base spare held cs y hy hw
  obtain ⟨_, _, rfl, rfl, ⟨_, _, rfl, rfl, ⟨A2, c2, rfl, hl2, hC2⟩⟩⟩ := hK
  obtain ⟨w0, w1, w2⟩ := hwf
  exact ⟨x, k24_mk W x hl2 hC2, .mk x w0 w1 w2.1 w2.2, Nat.zero_le _⟩
/-- what is known of a value of type 38 that was read. -/
def wf38 (x : S38) : Prop := True ∧ (-9223372036854775808 ≤ x.f1 ∧ x.f1 ≤ 9223372036854775807)
set_option maxRecDepth 100000 in
theorem opens38 (fuel : Nat) : OpensAt fuel Try.prog 38 k38 wf38 (fun _ => 0) :=
  opens_weak (at_struct (fuel := fuel) (fun x : S38 => (x.f0, x.f1)) (fun z => ⟨z.1, z.2⟩) (fun _ => rfl) Try.underlying38 (by kernel_rfl) (fun m hm => (fields_cons rfl (by kernel_rfl) rfl (at_bool Try.underlying4) (fields_one rfl (by kernel_rfl) (at_ini64 Try.underlying3))))) (fun _ h => h)
theorem opens25 (fuel : Nat) : OpensAt fuel Try.prog 25 (Kd.slice 38 k38) (fun xs => (xs.length * 16 ≤ 140737488351232 ∧ ∀ y ∈ xs, wf38 y)) (fun _ => 0) :=
  opens_weak (at_slice Try.underlying25 (by kernel_rfl) (by kernel_rfl) (fun q_ _ => (opens38 q_))) (fun _ h => h)
end Go.Proofs.Ytggdpeeiioibgaa.Opn
namespace Go.Proofs.Ytggdpeeiioibgaa.Opn
open Go.RowKit Go.Proofs.YtggdpeeiioibgaaW.PrintWords Go.Proofs.YtggdpeeiioibgaaW.PrintLast Go.Proofs.Ytggdpeeiioibgaa.Open Go.Proofs.Ytggdpeeiioibgaa.Kinds Go.Proofs.Ytggdpeeiioibgaa.E
set_option linter.unusedVariables false
theorem ok_of {x : S24} (h : wf24 x) : Ok x := by
  induction h with
  | mk x _ _ h1 h2 ih => exact .mk x h1 (fun y hy => ih y hy)
theorem okWide_array {P : Program} {w : World} {r : Reach} {base : Nat} {t : TypeId} {v : Value} {n : Nat} {e : TypeId} (ht : P.underlying t = some (.array n e)) (h : Value.okWide P w r base t v) : ∃ cs, v = .agg cs ∧ cs.size = P.cellsOf t := by
  simp only [Value.okWide, ht] at h
  obtain ⟨cs, h1, h2, _⟩ := h
  exact ⟨cs, h1, h2⟩
/-- an array of two. -/
theorem at_array2 {P : Program} {t e : TypeId} {fuel : Nat} {α : Type} {d : Kd α} {wf : α → Prop} {B : α → Nat} (ht : P.underlying t = some (.array 2 e)) (hc : P.cellsOf e = d.sz) (hct : P.cellsOf t = d.sz + d.sz)
    (h : ∀ m, m < fuel → OpensAt m P e d wf B) : OpensAt fuel P t (Kd.pair d d) (fun x => wf x.1 ∧ wf x.2) (fun x => B x.1 + B x.2 + 1) := by
  intro H enc W base spare held cs y hy hw
  obtain ⟨xs, m, rfl, rfl, hl, hxl, hf⟩ := DataW.trod_array ht hy
  match xs, hxl with
  | [a, b], _ =>
    have h0 := hf 0 (by decide)
    have h1 := hf 1 (by decide)
    rw [hc] at h0 h1
    have hw' : ∀ n ∈ DataW.weightsAll P e [a.1, b.1], n ≤ reachBytes := fun n hn => hw n (by simpa [DataW.weights, ht] using hn)
    obtain ⟨x0, hK0, hwf0, hB0⟩ := h m (by omega) enc W base spare held _ a h0 (fun n hn => hw' n (by simp [DataW.weightsAll, hn]))
    obtain ⟨x1, hK1, hwf1, hB1⟩ := h m (by omega) enc W base spare held _ b h1 (fun n hn => hw' n (by simp [DataW.weightsAll, hn]))
    refine ⟨(x0, x1), ⟨_, _, ?_, hK0, hK1⟩, ⟨hwf0, hwf1⟩, by simp only [Rows.uptoBulk, Rows.uptoBulkAll, List.map_cons, List.map_nil]; omega⟩
    rw [hct] at hl
    rw [Nat.zero_mul, List.drop_zero, Nat.one_mul, List.take_of_length_le (l := cs.drop d.sz) (by rw [List.length_drop]; omega), List.take_append_drop]
/-- a value that was read. -/
theorem open24 {W : World} {x : S24} {cs : Array Value} (h : k24.K W x cs.toList) : ∃ A c, cs = #[.int .i64 x.f0, .int .i64 x.f1, .slice A x.f2.length c] ∧ Kd24 W A c x := by
  obtain ⟨A, c, he, h1, h2⟩ := k24_open h
  exact ⟨A, c, by cases cs; simpa using he, h1, h2⟩
theorem open36 {W : World} {a b : List S38} {cs : Array Value} (h : (Kd.pair (Kd.slice 38 k38) (Kd.slice 38 k38)).K W (a, b) cs.toList) :
    ∃ Aa ca Ab cb, cs = #[.slice Aa a.length ca, .slice Ab b.length cb] ∧ a.length ≤ ca ∧ Kd.C k38 W Aa a.length a ∧ b.length ≤ cb ∧ Kd.C k38 W Ab b.length b := by
  obtain ⟨_, _, he, ⟨Aa, ca, rfl, h1, h2⟩, ⟨Ab, cb, rfl, h3, h4⟩⟩ := h
  exact ⟨Aa, ca, Ab, cb, by cases cs; simpa using he, h1, h2, h3, h4⟩
end Go.Proofs.Ytggdpeeiioibgaa.Opn
