/- What the rows' laid variables and the world's shape give; a wrap that keeps both. No condition. -/
import Derived.Test.YtfofpammnfcmiaaDoorSe
import Derived.Test.YtfofpammnfcmiaaDoorRows
import Derived.HandedShaped
import Derived.Stop.LaidErr
import Derived.Lib.LaidTab
import Derived.LaidLaws
namespace Go
variable {H : Type} {enc : TypeId × Value → H}
/-- the wrap of a row of a card, the world's shape kept. -/
theorem returnsInHanded_of_change_and_shaped {a : Assume} {C : Checked} {os : Os} {f : FuncId} {fn : Func} {s : ChangeSpec} {conds : List PathCond} {apart fresh handsOn again : Bool} {X : World → Array Value → Prop}
    (hX : ∀ (w w' : World) (args : Array Value), w.heap = w'.heap → X w args → X w' args)
    (own : ownKnob C.prog.godebug = none) (started : os.Started) (noInit : C.prog.inits.idxOf? f = none) (hfn : C.prog.funcs[f]? = some fn)
    (witness : ∃ (w : World) (tape : Tape) (i : Input), w.os = os ∧ (w.forCall tape i).Shaped C.prog ∧ i.vars = [] ∧ Input.okWide C.prog (w.forCall tape i) .any w.heap.size f i ∧
      ((s.pre enc C.prog fn conds apart (w.forCall tape i).memory i.args ∧ X (w.forCall tape i).memory i.args) ∧ sizedMet enc C.prog fn (OpenSpec.ofChange s) apart (w.forCall tape i).memory i.args) ∧ a.holds C.prog (lone (Frame.enter C.prog f i.args .normal) [] (w.forCall tape i)))
    (contract : ∀ (W : World) (base : Nat) (args : Array Value) (ds gs : List (DataW H)) (before : List MemPlace),
      (∀ (j : Nat) t v, fn.params[j]? = some t → args[j]? = some v → Value.okWide C.prog W .any base t v) →
      DataW.Whole enc C.prog fn.params.toList s.vars apart W args.toList ds gs before →
      conds.all (PathCond.test C.prog ⟨fn.params.toList, ds, s.plain.varTypes C.prog, gs⟩) = true →
      (DataW.weightsEach C.prog (fn.params.toList ++ s.plain.varTypes C.prog) (ds ++ gs)).all (· ≤ reachBytes) = true → X W args → W.ShapedOpen C.prog →
      a.holds C.prog (lone (Frame.enter C.prog f args .normal) [] W) →
      Calls C.prog f args W fun e W' => ∃ v, e = .returned v ∧ s.post enc C.prog fn apart fresh handsOn again W args v W') :
    ReturnsInHanded a C os f .any (fun w args => (s.pre enc C.prog fn conds apart w args ∧ X w args) ∧ sizedMet enc C.prog fn (OpenSpec.ofChange s) apart w args) (s.post enc C.prog fn apart fresh handsOn again) := by
  refine returnsInHanded_of_calls own started noInit witness ?_
  intro w tape i _ hsh _ hok hpre hholds
  obtain ⟨_, _, _, fn', hfn', _, _, _, _, hval⟩ := hok
  have e : fn' = fn := Option.some.inj (hfn'.symm.trans hfn)
  subst e
  obtain ⟨⟨⟨ds, gs, before, hw, hc⟩, hx⟩, hz⟩ := hpre
  have hw' := DataW.Whole.of_heap (w' := w.forCall tape i) (by rfl) hw
  refine (contract (w.forCall tape i) w.heap.size i.args ds gs before hval hw' hc (hz.weights hw) (hX _ _ _ (by rfl) hx) hsh hholds).mono fun e W' ⟨v, he, hp⟩ => ?_
  subst he
  exact ChangeSpec.post_blind hp
end Go
namespace Go.Proofs.YtfofpammnfcmiaaDoor.E
open Go.RowKit
set_option linter.unusedVariables false
theorem pow_of_laid {n1 n2 : String} {d1 d2 : DataW Unit} {rest : List (String × DataW Unit)} {W : World} (h : laidMet Tryd.prog ((n1, d1) :: (n2, d2) :: ("internal/strconv.uint64pow10", Rows.laid_internal_strconv_uint64pow10) :: rest) W) : Pow W := by
  have h1 := h.tail.tail
  have e : (Rows.laid_internal_strconv_uint64pow10 : DataW Unit) = Lib.tabData .u64 Lib.pow10Tab := rfl
  rw [e] at h1
  exact Lib.tabIs_of_head (g := 8) (t := 184) (e := 123) (n := 20) (by kernel_rfl) (by kernel_rfl) Tryd.underlying184 Tryd.underlying123 (by kernel_rfl) (by kernel_rfl) h1
theorem star : "*" ++ "errors.errorString" = "*errors.errorString" := by decide
theorem row193 (u : TypeId) (h : Tryd.prog.typeName? 3 u = some "*errors.errorString") : u = 193 :=
  typeName_ptr_named (nm := "errors.errorString") (by rw [star]; kernel_rfl) (by kernel_rfl) (by decide) u (by rw [star]; exact h)
theorem errs_of_laid {n1 n2 n3 n4 : String} {d1 d2 d3 d4 : DataW Unit} {rest : List (String × DataW Unit)} {W : World} (h : laidMet Tryd.prog ((n1, d1) :: (n2, d2) :: (n3, d3) :: (n4, d4) :: ("strconv.ErrRange", Rows.laid_strconv_ErrRange) :: ("strconv.ErrSyntax", Rows.laid_strconv_ErrSyntax) :: rest) W) : Errs W := by
  have h1 := h.tail.tail.tail.tail
  have h2 := h1.tail
  obtain ⟨a, s, hv, _⟩ := laid_sentinel h1 (g := 5) (ti := 128) (tp := 193) (te := 195) (ts := 9) (by kernel_rfl) (by kernel_rfl) Tryd.underlying128 row193 Tryd.underlying193 Tryd.underlying195 rfl rfl Tryd.underlying9 (by kernel_rfl) (by kernel_rfl)
  obtain ⟨b, u, hw, _⟩ := laid_sentinel h2 (g := 4) (ti := 128) (tp := 193) (te := 195) (ts := 9) (by kernel_rfl) (by kernel_rfl) Tryd.underlying128 row193 Tryd.underlying193 Tryd.underlying195 rfl rfl Tryd.underlying9 (by kernel_rfl) (by kernel_rfl)
  exact ⟨⟨_, by simpa using World.var?_cell (g := 4) (by kernel_rfl) hw 0, .inr ⟨_, _, rfl⟩⟩, ⟨_, by simpa using World.var?_cell (g := 5) (by kernel_rfl) hv 0, .inr ⟨_, _, rfl⟩⟩⟩
theorem lw_of {W : World} (hp : Pow W) (he : Errs W) (hsh : W.ShapedOpen Tryd.prog) : Lw W := ⟨hp, he, Tryd.laysM146.s1_3 W hsh⟩
theorem parses_row (s : ByteArray) (W : World) (h1 : s.size ≤ 140737488351232) (h : Lw W) : Calls Tryd.prog 3 #[.string s] W fun e w' => e = .returned (.bool true) ∧ Below W.heap.size W w' := parses_walk s W (by omega) h
end Go.Proofs.YtfofpammnfcmiaaDoor.E
