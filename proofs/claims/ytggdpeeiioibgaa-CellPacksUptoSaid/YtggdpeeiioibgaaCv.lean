/- Marline, layer 08: what the laws share. Conditions: as each says. -/
import Derived.Test.YtggdpeeiioibgaaCq
import Derived.Test.YtggdpeeiioibgaaPW8
import Derived.Test.YtggdpeeiioibgaaOp3
namespace Go.Proofs.Ytggdpeeiioibgaa.Opn
open Go.RowKit Go.Proofs.YtggdpeeiioibgaaW.PrintWords Go.Proofs.YtggdpeeiioibgaaW.PrintLast Go.Proofs.Ytggdpeeiioibgaa.Open Go.Proofs.Ytggdpeeiioibgaa.Kinds
theorem opens44 (fuel : Nat) : OpensAt fuel Try.prog 44 (Kd.slice 5 (Kd.int .u8)) (fun xs => (xs.length * 1 ≤ 140737488351232 ∧ ∀ y ∈ xs, (0 ≤ y ∧ y ≤ 255))) (fun _ => 0) :=
  opens_weak (at_slice Try.underlying44 (by kernel_rfl) (by kernel_rfl) (fun q_ _ => (at_inu8 Try.underlying5))) (fun _ h => h)
end Go.Proofs.Ytggdpeeiioibgaa.Opn
namespace Go.Proofs.Ytggdpeeiioibgaa.E
open Go.RowKit Go.Proofs.YtggdpeeiioibgaaW.PrintWords Go.Proofs.YtggdpeeiioibgaaW.PrintLast Go.Proofs.YtggdpeeiioibgaaW.PrintMore Go.Proofs.Ytggdpeeiioibgaa.Kinds Go.Proofs.Ytggdpeeiioibgaa.Obj
set_option linter.unusedVariables false
set_option linter.unusedSimpArgs false

theorem works8 (k : Nat) (hk : 30 ≤ k) : PE.marlinelaw08_works.f k = some true := by
  have ht := at_rounds (PT.marlineref06_Text.mono 2 0 wv.f2) hk text_v
  have e1 : (strOfNums [0, 5]).toList = (strOfNums (([0, 5] : List Int))).toList := rfl
  have e2 : (⟨#[91, 54, 52, 44, 32, 116, 114, 117, 101, 93]⟩ : ByteArray).toList = ([91, 54, 52, 44, 32, 116, 114, 117, 101, 93] : List UInt8) := by decide +kernel
  unfold PE.marlinelaw08_works.f
  rw [cread_w, Option.bind_some, cbytes_w, Option.bind_some, if_pos e1, if_pos rfl]
  simp only
  rw [ht, Option.bind_some, if_pos e2, clong_w, Option.bind_some]
  rfl
theorem read_cases (b : List Int) : (∃ x, dv (b.length + 1) b = some (x, []) ∧ read b = (x, 0)) ∨ ((∀ x, dv (b.length + 1) b ≠ some (x, [])) ∧ read b = (z24, 1)) := by
  unfold read
  cases h : dv (b.length + 1) b with
  | none => exact .inr ⟨fun x hx => (by cases hx), rfl⟩
  | some z =>
    obtain ⟨x, r⟩ := z
    cases r with
    | nil => exact .inl ⟨x, rfl, rfl⟩
    | cons c r => exact .inr ⟨fun y hy => (by simp at hy), rfl⟩
theorem cread_ev (b : List Int) (hb : Bytes b) (hl : b.length ≤ 1000000000000) (x : S24) (e : Int) (h : read b = (x, e)) : E.CRead.f b = some (x.f0, x.f1, x.f2, e) := by
  unfold E.CRead.f
  rw [if_pos ⟨hb, hl⟩, h]
theorem bytes_leb : ∀ k m, Bytes (leb k m)
  | 0, m => by intro c hc; simp [leb] at hc; omega
  | k + 1, m => by
    have ih := bytes_leb k (m / 128)
    intro c hc
    unfold leb at hc
    split at hc
    · simp at hc; omega
    · rcases List.mem_cons.1 hc with rfl | hc
      · omega
      · exact ih c hc
theorem bytes_append {a b : List Int} (h : Bytes a) (k : Bytes b) : Bytes (a ++ b) := fun c hc => (List.mem_append.1 hc).elim (h c) (k c)
theorem bytes_grp (n : Int) : Bytes (grp n) := bytes_leb _ _
mutual
theorem bytes_enc : ∀ x, Bytes (enc x)
  | ⟨k, n, l⟩ => by
    have h3 := bytes_encL l
    intro c hc
    unfold enc at hc
    rcases List.mem_cons.1 hc with rfl | hc
    · omega
    · split at hc
      · exact bytes_grp n c hc
      · split at hc
        · simp at hc; omega
        · exact bytes_append (bytes_grp _) h3 c hc
theorem bytes_encL : ∀ l, Bytes (encL l)
  | [] => by intro c hc; simp [encL] at hc
  | x :: l => by
    have h1 := bytes_enc x
    have h2 := bytes_encL l
    simp only [encL]
    exact bytes_append h1 h2
end
theorem read_enc (x : S24) (hr : right x = true) (hn : Num x) (hz : sz x ≤ 1000000000000) : read (enc x) = (x, 0) := by
  have h1 := enc_sz x hr
  have h2 := sz_eq x
  have h := dv_complete ((enc x).length + 1) x [] (by omega) hr hn (by omega)
  rw [List.append_nil] at h
  unfold read
  rw [h]
theorem small_ev (x : S24) (hx : Ok x) (k : Nat) (hk : 2 * sz x ≤ k) : PA.marlinelaw06_Small.f k x.f0 x.f1 x.f2 = some (if szw x > 300 then 0 else 1) := by
  unfold PA.marlinelaw06_Small.f
  rw [rsize_ev x hx k hk, Option.bind_some]
  split <;> rfl
theorem cbytes_ev (x : S24) (hn : Num x) (hz : sz x ≤ 1000000000000) : E.CBytes.f x.f0 x.f1 x.f2 = some (bytes x) := by
  unfold E.CBytes.f
  rw [s24_eta, if_pos ⟨hn, by omega⟩]
theorem clong_ev (x : S24) (hn : Num x) (hz : sz x ≤ 1000000000000) : E.CLong.f x.f0 x.f1 x.f2 = some ((bytes x).length : Int) := by
  unfold E.CLong.f
  rw [s24_eta, if_pos ⟨hn, by omega⟩]
theorem num_of {x : S24} (h : Opn.wf24 x) : Num x := by
  induction h with
  | mk x h0 h1 h2 _ ih => exact .mk x h0 h1 (fun y hy => ih y hy)
end Go.Proofs.Ytggdpeeiioibgaa.E
