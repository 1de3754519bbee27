/- Marline, layer 08: the law of what is written. Conditions: as each says. -/
import Derived.Test.YtggdpeeiioibgaaCs
import Derived.Test.YtggdpeeiioibgaaPW6
import Derived.Test.YtggdpeeiioibgaaOp3
namespace Go.Proofs.Ytggdpeeiioibgaa.E
open Go.RowKit Go.Proofs.YtggdpeeiioibgaaW.PrintWords Go.Proofs.YtggdpeeiioibgaaW.PrintLast Go.Proofs.YtggdpeeiioibgaaW.PrintMore Go.Proofs.Ytggdpeeiioibgaa.Kinds Go.Proofs.Ytggdpeeiioibgaa.Obj
set_option linter.unusedVariables false
set_option linter.unusedSimpArgs false

theorem bytes_leb : ∀ k m, Bytes (leb k m)
  | 0, m => by intro c hc; simp [leb] at hc; omega
  | k + 1, m => by
    have ih := bytes_leb k (m / 128)
    intro c hc
    unfold leb at hc
    split at hc
    · simp at hc; omega
    · rcases List.mem_cons.1 hc with rfl | hc
      · omega
      · exact ih c hc
theorem bytes_append {a b : List Int} (h : Bytes a) (k : Bytes b) : Bytes (a ++ b) := fun c hc => (List.mem_append.1 hc).elim (h c) (k c)
theorem bytes_grp (n : Int) : Bytes (grp n) := bytes_leb _ _
mutual
theorem bytes_enc : ∀ x, Bytes (enc x)
  | ⟨k, n, l⟩ => by
    have h3 := bytes_encL l
    intro c hc
    unfold enc at hc
    rcases List.mem_cons.1 hc with rfl | hc
    · omega
    · split at hc
      · exact bytes_grp n c hc
      · split at hc
        · simp at hc; omega
        · exact bytes_append (bytes_grp _) h3 c hc
theorem bytes_encL : ∀ l, Bytes (encL l)
  | [] => by intro c hc; simp [encL] at hc
  | x :: l => by
    have h1 := bytes_enc x
    have h2 := bytes_encL l
    simp only [encL]
    exact bytes_append h1 h2
end
theorem read_enc (x : S24) (hr : right x = true) (hn : Num x) (hz : sz x ≤ 1000000000000) : read (enc x) = (x, 0) := by
  have h1 := enc_sz x hr
  have h2 := sz_eq x
  have h := dv_complete ((enc x).length + 1) x [] (by omega) hr hn (by omega)
  rw [List.append_nil] at h
  unfold read
  rw [h]
theorem small_ev (x : S24) (hx : Ok x) (k : Nat) (hk : 2 * sz x ≤ k) : PA.marlinelaw06_Small.f k x.f0 x.f1 x.f2 = some (if szw x > 300 then 0 else 1) := by
  unfold PA.marlinelaw06_Small.f
  rw [rsize_ev x hx k hk, Option.bind_some]
  split <;> rfl
theorem cbytes_ev (x : S24) (hn : Num x) (hz : sz x ≤ 1000000000000) : E.CBytes.f x.f0 x.f1 x.f2 = some (bytes x) := by
  unfold E.CBytes.f
  rw [s24_eta, if_pos ⟨hn, by omega⟩]
theorem clong_ev (x : S24) (hn : Num x) (hz : sz x ≤ 1000000000000) : E.CLong.f x.f0 x.f1 x.f2 = some ((bytes x).length : Int) := by
  unfold E.CLong.f
  rw [s24_eta, if_pos ⟨hn, by omega⟩]
theorem writes_j1 (x : S24) (hn : Num x) (hz : sz x ≤ 300) (k : Nat) (hk : 4 * sz x + 20 ≤ k) : PE.marlinelaw08_CellWrites.j1 (k + 1) (bytes x) false x.f0 x.f1 x.f2 = some true := by
  simp only [PE.marlinelaw08_CellWrites.j1]
  rw [if_neg (by decide)]
  have hl := enc_len x
  by_cases hr : right x = true
  · have hb : bytes x = enc x := by unfold bytes; rw [if_pos hr]
    have hR := rright_ev x (by omega) k (by omega)
    rw [hb, cread_ev (enc x) (bytes_enc x) (by omega) x 0 (read_enc x hr hn (by omega)), Option.bind_some, hR, Option.bind_some, if_pos hr, if_pos rfl]
    have hs : E.Same.f x.f0 x.f1 x.f2 x.f0 x.f1 x.f2 = some true := by
      unfold E.Same.f
      exact congrArg some ((same_iff _ _).2 rfl)
    rw [hs]; rfl
  · have hb : bytes x = [] := by unfold bytes; rw [if_neg hr]
    have hR := rright_ev x (by omega) k (by omega)
    have h0 : read [] = (z24, 1) := rfl
    rw [hb, cread_ev [] (fun c hc => by simp at hc) (by simp) z24 1 h0, Option.bind_some, hR, Option.bind_some, if_neg hr, if_pos (by simp)]
    rfl
theorem writes_pure (x : S24) (hx : Ok x) (hn : Num x) (hz : sz x ≤ 1048576) : ∃ k, PE.marlinelaw08_CellWrites.f k x.f0 x.f1 x.f2 = some true := by
  refine ⟨4 * sz x + 102, ?_⟩
  obtain ⟨k, hk⟩ : ∃ k, 4 * sz x + 102 = k + 2 := ⟨4 * sz x + 100, rfl⟩
  rw [hk]
  have hw : wrap64 (sz x : Int) = (sz x : Int) := by unfold wrap64; omega
  have hj : PE.marlinelaw08_CellWrites.j0 (k + 2) true x.f0 x.f1 x.f2 = some true := by
    simp only [PE.marlinelaw08_CellWrites.j0]
    rw [if_pos trivial, works8 (k + 1) (by omega)]
    rfl
  unfold PE.marlinelaw08_CellWrites.f
  rw [works8 (k + 2) (by omega), Option.bind_some, if_pos rfl, small_ev x hx (k + 2) (by omega), Option.bind_some]
  by_cases hs : szw x > 300
  · rw [if_pos hs]
    exact hj
  · rw [if_neg hs]
    have hs2 : sz x ≤ 300 := by unfold szw at hs; rw [hw] at hs; omega
    show PE.marlinelaw08_CellWrites.j0 (k + 2) false x.f0 x.f1 x.f2 = some true
    simp only [PE.marlinelaw08_CellWrites.j0]
    rw [if_neg (by decide), cbytes_ev x hn (by omega), Option.bind_some, rbytes_ev x (by omega) hn (k + 1) (by omega), Option.bind_some, if_pos rfl, clong_ev x hn (by omega), Option.bind_some]
    have e : ((((bytes x).length : Int)) != ((bytes x).length : Int)) = false := by simp
    rw [e]
    exact writes_j1 x hn hs2 k (by omega)
theorem num_of {x : S24} (h : Opn.wf24 x) : Num x := by
  induction h with
  | mk x h0 h1 h2 _ ih => exact .mk x h0 h1 (fun y hy => ih y hy)
theorem writes_walk (x : S24) (A : Option Addr) (c : Nat) (w : World) (hx : Opn.wf24 x) (hz : sz x ≤ 1048576) (h : Kd24 w A c x) :
    Calls Try.prog 6 #[v24 x.f0 x.f1 A x.f2.length c] w fun e w' => e = .returned (.bool true) ∧ Below w.heap.size w w' := by
  obtain ⟨k, hk⟩ := writes_pure x (Opn.ok_of hx) (num_of hx) hz
  exact PE.marlinelaw08_CellWrites.calls k x.f0 x.f1 A c x.f2 true w h.2 h.1 hk
end Go.Proofs.Ytggdpeeiioibgaa.E
