/- Marline, values: slices.Repeat of one value: rows, copies. Conditions: as each says. -/
import Derived.Test.YtggdpeeiioibgaaX
import Derived.Laws.CopyRow
import Derived.Laws.IdiomCopy
import Derived.Laws.MakeOwn
namespace Go.Proofs.Ytggdpeeiioibgaa.E
open Go.RowKit Go.Proofs.YtggdpeeiioibgaaW.PrintWords Go.Proofs.YtggdpeeiioibgaaW.PrintLast Go.Proofs.YtggdpeeiioibgaaW.PrintMore Go.Proofs.Ytggdpeeiioibgaa.Kinds Go.Proofs.Ytggdpeeiioibgaa.Obj
set_option linter.unusedVariables false
set_option linter.unusedSimpArgs false

/-- cells, so many times. -/
def reps (cs : List Value) : Nat → List Value
  | 0 => []
  | n + 1 => cs ++ reps cs n
theorem reps_len (cs : List Value) (h : cs.length = 3) : ∀ n, (reps cs n).length = 3 * n
  | 0 => rfl
  | n + 1 => by simp only [reps, List.length_append, reps_len cs h n, h]; omega
theorem reps_add (cs : List Value) : ∀ m n, reps cs (m + n) = reps cs m ++ reps cs n
  | 0, n => by simp [reps]
  | m + 1, n => by rw [show m + 1 + n = (m + n) + 1 by omega]; simp only [reps, reps_add cs m n, List.append_assoc]
theorem reps_one (cs : List Value) (h : ∀ v ∈ cs, v.oneCell' = true) : ∀ n, ∀ v ∈ reps cs n, v.oneCell' = true
  | 0, v, hv => by simp [reps] at hv
  | n + 1, v, hv => by
    rcases List.mem_append.1 hv with hv | hv
    · exact h v hv
    · exact reps_one cs h n v hv
theorem reps_get (cs : List Value) (h : cs.length = 3) : ∀ n j k (v : Value), j < n → cs[k]? = some v → (reps cs n)[j * 3 + k]? = some v
  | 0, j, k, v, hj, hv => by omega
  | n + 1, 0, k, v, hj, hv => by
    have hk := (List.getElem?_eq_some_iff.1 hv).1
    simp only [reps, Nat.zero_mul, Nat.zero_add]
    rw [List.getElem?_append_left hk]; exact hv
  | n + 1, j + 1, k, v, hj, hv => by
    simp only [reps]
    rw [List.getElem?_append_right (by rw [h]; omega), h, show (j + 1) * 3 + k - 3 = j * 3 + k by omega]
    exact reps_get cs h n j k v (by omega) hv
/-- a row of n places, j of them written. -/
def half (cs zs : List Value) (n j : Nat) : List Value := reps cs j ++ reps zs (n - j)
theorem half_len (cs zs : List Value) (hc : cs.length = 3) (hz : zs.length = 3) (n j : Nat) (h : j ≤ n) : (half cs zs n j).length = 3 * n := by
  unfold half
  rw [List.length_append, reps_len cs hc, reps_len zs hz]; omega
theorem half_step (cs zs : List Value) (hc : cs.length = 3) (hz : zs.length = 3) (n j m : Nat) (h : j + m ≤ n) :
    (half cs zs n j).take (3 * j) ++ reps cs m ++ (half cs zs n j).drop (3 * j + (reps cs m).length) = half cs zs n (j + m) := by
  unfold half
  have e1 := reps_len cs hc j
  have e2 := reps_len cs hc m
  have e3 := reps_len zs hz m
  rw [List.take_left' e1, e2, show n - j = m + (n - (j + m)) by omega, reps_add zs m, ← List.append_assoc, List.drop_left' (by rw [List.length_append, e1, e3]), reps_add cs j m]
theorem half_get (cs zs : List Value) (hc : cs.length = 3) (n j i k : Nat) (v : Value) (hi : i < j) (hv : cs[k]? = some v) : (half cs zs n j)[i * 3 + k]? = some v := by
  have hk := (List.getElem?_eq_some_iff.1 hv).1
  unfold half
  rw [List.getElem?_append_left (by rw [reps_len cs hc]; omega)]
  exact reps_get cs hc j i k v hi hv
theorem run_copy3 (w : World) (ty : TypeId) (g o dLen dCap : Nat) (a : Addr) (sLen sCap : Nat) (cur : Array Value) (t : TypeId) (cs : List Value) (m : Nat) (hm : Nat.min sLen dLen = m) (hn : cs.length = m * 3)
    (hg : w.heap[g]? = some (.cells cur t (0, 0))) (hsrc : ∀ j v, cs[j]? = some v → w.cell? (a.add j) = some v) (hfit : o + cs.length ≤ cur.size) (h1 : ∀ v ∈ cs, v.oneCell' = true) :
    (Builtin.copy_ #[22, 22] ty #[.slice (some ⟨g, o, none⟩) dLen dCap, .slice (some a) sLen sCap]).run Try.prog w =
      .ok (goInt m) (w.setRow g (cur.toList.take o ++ cs ++ cur.toList.drop (o + cs.length)).toArray) := by
  have hl := run_loadCells_list (P := Try.prog) w a cs hsrc
  have hst := run_storeCells_at Try.prog g o t cs 0 cur w hg (by simpa using hfit) h1
  obtain ⟨i0, hi, hz0, hz1, hz2⟩ := info_parts info24
  have hu := Try.underlying22
  rw [hn] at hl
  simp [Builtin.copy_, run_underlying hu, Builtin.lenOf, Builtin.firstCells, sizeOf, typeInfo, hi, hz1, hm, hl, hst]
theorem wpList_copy3 (w : World) {ops : Array Oper} {rest : List Oper} {o : Oper} {a : Act} {Q : Exit → Act → World → Prop} (hgd : o.guard = none) (d s : Operand) (t t' : TypeId)
    (ho : o.op = .call { callee := .builtin .copy, args := #[d, s], argTypes := #[t, t'] }) (v u : Value) (hd : a.eval d = v) (hs : a.eval s = u) {v' : Value} {w' : World}
    (hr : (Builtin.copy_ #[t, t'] o.type #[v, u]).run Try.prog w = .ok v' w') (h : wpList Try.prog ops Q rest (a.put o.dst v') w') : wpList Try.prog ops Q (o :: rest) a w := by
  refine wpList_plain hgd fun K hK => ?_
  unfold Oper.wp execOp
  simp only [ho, resolve, invoke, builtin, Sem.run_bind, Sem.run_pure, Result.andThen_ok, List.map_toArray, List.map_cons, List.map_nil, hd, hs, hr]
  exact hK _ _ h
theorem step_copy3 {ops : Array Oper} {o : Oper} {a : Act} {w : World} {K : Act → World → Prop} {Q : Exit → Act → World → Prop} {E : Prop}
    (hg : o.guard = none) (d x : Operand) (dT sT : TypeId) (hop : o.op = Op.call { callee := Callee.builtin Builtin.copy, args := #[d, x], argTypes := #[dT, sT] })
    (v u : Value) (hd : a.eval d = v) (hx : a.eval x = u) {v' : Value} {w' : World} (hr : (Builtin.copy_ #[dT, sT] o.type #[v, u]).run Try.prog w = .ok v' w') (hK : K (a.put o.dst v') w') :
    if Region.wanted o (yielded ops a.tmps) = true then Oper.wp Try.prog o a w K Q else E := by
  have hw : Region.wanted o (yielded ops a.tmps) = true := by simp [Region.wanted, hg]
  rw [if_pos hw]
  unfold Oper.wp
  simp [execOp, hop, resolve, invoke, builtin, hd, hx, hr, Result.andThen]
  exact hK
/-- the cells of a new row. -/
theorem made_reps (a b c : Value) (n : Nat) : (madeCells #[a, b, c] (n * 3)).toList = reps [a, b, c] n := by
  induction n with
  | zero => simp [madeCells, reps]
  | succ n ih =>
    apply List.ext_getElem?
    intro i
    have hl : (reps [a, b, c] (n + 1)).length = 3 * (n + 1) := reps_len _ rfl _
    by_cases hi : i < 3 * (n + 1)
    · have h3 : i = i / 3 * 3 + i % 3 := by omega
      have hq : i / 3 < n + 1 := by omega
      have hm : i % 3 < 3 := by omega
      have e : ∀ v, [a, b, c][i % 3]? = some v → (reps [a, b, c] (n + 1))[i]? = some v := fun v hv => by
        rw [h3]
        exact reps_get [a, b, c] rfl (n + 1) (i / 3) (i % 3) v hq hv
      have hg : (madeCells #[a, b, c] ((n + 1) * 3)).toList[i]? = [a, b, c][i % 3]? := by
        simp only [madeCells]
        rw [Array.getElem?_toList, Array.getElem?_map, Array.getElem?_range]
        rw [if_pos (by omega)]
        rcases (show i % 3 = 0 ∨ i % 3 = 1 ∨ i % 3 = 2 by omega) with h | h | h <;> simp [h]
      rw [hg]
      rcases (show i % 3 = 0 ∨ i % 3 = 1 ∨ i % 3 = 2 by omega) with h | h | h <;> rw [h] at e ⊢ <;> exact (e _ rfl).symm
    · rw [List.getElem?_eq_none (by rw [Array.length_toList, size_madeCells]; omega), List.getElem?_eq_none (by omega)]
end Go.Proofs.Ytggdpeeiioibgaa.E
