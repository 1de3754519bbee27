/- Marline, layer 27: the plain law of AsmPlays: what the program puts together and what the document says are one. No condition. -/
import Derived.Test.YtchmcmbglaffdaaE
import Derived.Test.YtchmcmbglaffdaaPAx2
namespace Go.Proofs.Ytchmcmbglaffdaa.M
open Go.RowKit Go.Proofs.YtchmcmbglaffdaaW.PrintWords Go.Proofs.YtchmcmbglaffdaaW.PrintLast Go.Proofs.YtchmcmbglaffdaaW.PrintMore Go.Proofs.Ytchmcmbglaffdaa.Kinds Go.Proofs.Ytchmcmbglaffdaa.Obj Go.Proofs.Ytchmcmbglaffdaa.PA
set_option linter.unusedVariables false
set_option linter.unusedSimpArgs false

/-- the jumps, out of what each instruction leads to. -/
def jOf : Int → List Int → List S49
  | _, [] => []
  | n, t :: ts => if 0 ≤ t then ⟨n, t⟩ :: jOf (n + 1) ts else jOf (n + 1) ts
theorem jOf_snoc (t : Int) : ∀ (ts : List Int) (n : Int), jOf n (ts ++ [t]) = jOf n ts ++ (if 0 ≤ t then [⟨n + ts.length, t⟩] else [])
  | [], n => by
    by_cases h : 0 ≤ t
    · simp [jOf, h]
    · simp [jOf, h]
  | a :: ts, n => by
    have ih := jOf_snoc t ts (n + 1)
    have e : n + 1 + (ts.length : Int) = n + ((a :: ts).length : Int) := by simp; omega
    rw [e] at ih
    rw [List.cons_append, jOf, jOf, ih]
    by_cases h : 0 ≤ a
    · rw [if_pos h, if_pos h]; rfl
    · rw [if_neg h, if_neg h]
theorem jOf_mem : ∀ (ts : List Int) (n : Int) (j : S49), j ∈ jOf n ts → n ≤ j.f0 ∧ j.f0 < n + ts.length ∧ 0 ≤ j.f1 ∧ j.f1 ∈ ts
  | [], n, j, h => by simp [jOf] at h
  | a :: ts, n, j, h => by
    rw [jOf] at h
    by_cases ha : 0 ≤ a
    · rw [if_pos ha] at h
      rcases List.mem_cons.1 h with rfl | h
      · exact ⟨Int.le_refl _, by simp; omega, ha, List.mem_cons_self⟩
      · obtain ⟨h1, h2, h3, h4⟩ := jOf_mem ts (n + 1) j h
        exact ⟨by omega, by simp; omega, h3, List.mem_cons_of_mem _ h4⟩
    · rw [if_neg ha] at h
      obtain ⟨h1, h2, h3, h4⟩ := jOf_mem ts (n + 1) j h
      exact ⟨by omega, by simp; omega, h3, List.mem_cons_of_mem _ h4⟩

/-- what holds of the document's assembly. -/
structure Ok (L : List S36) (To LB : List Int) : Prop where
  len : To.length = L.length
  tto : ∀ t ∈ To, t = -1 ∨ (0 ≤ t ∧ t < LB.length)
  lb : ∀ x ∈ LB, x = -1 ∨ 0 ≤ x
theorem Ok.nil : Ok [] [] [] := ⟨rfl, by simp, by simp⟩
theorem Ok.label {L : List S36} {To LB : List Int} (h : Ok L To LB) : Ok L To (LB ++ [-1]) :=
  ⟨h.len, fun t ht => (h.tto t ht).elim .inl (fun ⟨a, b⟩ => .inr ⟨a, by simp; omega⟩), fun x hx => (List.mem_append.1 hx).elim (h.lb x) (fun e => .inl (by simpa using e))⟩
theorem Ok.mark {L : List S36} {To LB : List Int} (h : Ok L To LB) (n : Nat) : Ok L To (LB.set n L.length) :=
  ⟨h.len, fun t ht => by simpa using h.tto t ht, fun x hx => (List.mem_or_eq_of_mem_set hx).elim (h.lb x) (fun e => .inr (by omega))⟩
theorem Ok.emit {L : List S36} {To LB : List Int} (h : Ok L To LB) (x : S36) (t : Int) (ht : t = -1 ∨ (0 ≤ t ∧ t < LB.length)) : Ok (L ++ [x]) (To ++ [t]) LB :=
  ⟨by simp [h.len], fun s hs => (List.mem_append.1 hs).elim (h.tto s) (fun e => by rw [List.mem_singleton.1 e]; exact ht), h.lb⟩
theorem Ok.jumps {L : List S36} {To LB : List Int} (h : Ok L To LB) : ∀ j ∈ jOf 0 To, 0 ≤ j.f0 ∧ j.f0 < L.length ∧ 0 ≤ j.f1 ∧ j.f1 < LB.length := fun j hj => by
  obtain ⟨h1, h2, h3, h4⟩ := jOf_mem To 0 j hj
  have := h.len
  rcases h.tto _ h4 with e | ⟨_, e⟩
  · omega
  · exact ⟨h1, by omega, h3, e⟩
theorem rd_mem (l : List Int) (x : Int) (h0 : 0 ≤ x) (h : x < l.length) : rd l x ∈ l := by
  unfold rd
  rw [List.getD_eq_getElem?_getD, List.getElem?_eq_getElem (show x.toNat < l.length by omega)]
  exact List.getElem_mem _
theorem drop_rd (l : List Int) (x : Int) (h0 : 0 ≤ x) (h : x < l.length) : l.drop x.toNat = rd l x :: l.drop (x + 1).toNat := by
  rw [List.drop_eq_getElem_cons (show x.toNat < l.length by omega), show (x + 1).toNat = x.toNat + 1 by omega]
  congr 1
  unfold rd
  rw [List.getD_eq_getElem?_getD, List.getElem?_eq_getElem (show x.toNat < l.length by omega)]; rfl
theorem drop36 (l : List S36) (x : Int) (h0 : 0 ≤ x) (h : x < l.length) : l.drop x.toNat = rd_T36 l x :: l.drop (x + 1).toNat := by
  rw [List.drop_eq_getElem_cons (show x.toNat < l.length by omega), show (x + 1).toNat = x.toNat + 1 by omega]
  congr 1
  unfold rd_T36
  rw [List.getD_eq_getElem?_getD, List.getElem?_eq_getElem (show x.toNat < l.length by omega)]; rfl
theorem rd36_mid (out ls : List S36) (x : S36) (n : Int) (h : n = out.length) : rd_T36 (out ++ x :: ls) n = x := by
  subst h
  unfold rd_T36
  rw [List.getD_eq_getElem?_getD, Int.toNat_natCast, List.getElem?_append_right (Nat.le_refl _)]
  simp
theorem set36_mid (out ls : List S36) (x y : S36) (n : Int) (h : n = out.length) : (out ++ x :: ls).set n.toNat y = (out ++ [y]) ++ ls := by
  subst h
  rw [Int.toNat_natCast, List.set_append_right _ _ (Nat.le_refl _)]
  simp

def endR (o : Option (List S36)) : List S36 × Int := match o with | none => ([], 12) | some o => (o, 0)
theorem end_loop (L : List S36) (To LB : List Int) (h : Ok L To LB) (hl : L.length ≤ 1000) : ∀ (m k : Nat) (i : Int) (out : List S36), 0 ≤ i → i ≤ L.length → (L.length - i.toNat) = m → m < k → i = out.length →
    marlineref27_End.l0 k out i L To LB = some (endR (endL LB (jOf i (To.drop i.toNat)) (out ++ L.drop i.toNat)))
  | m, 0, i, out, _, _, _, hk, _ => absurd hk (Nat.not_lt_zero _)
  | m, k + 1, i, out, i0, i1, hm, hk, ho => by
    have hlen := h.len
    rw [marlineref27_End.l0]
    by_cases hi : i < (L.length : Int)
    · have hT : i < (To.length : Int) := by omega
      have hw : wrap64 (i + 1) = i + 1 := IntWalk.wrap64_in _ (by omega)
      rw [if_pos hi, if_pos i0, if_pos hT, drop_rd To i i0 hT, drop36 L i i0 hi, jOf, hw]
      have ho4 : out.length < 4398046511104 := by omega
      rcases h.tto _ (rd_mem To i i0 hT) with ht | ⟨t0, t1⟩
      · rw [if_neg (show ¬ rd To i ≥ 0 by omega), if_pos ho4, if_neg (show ¬ 0 ≤ rd To i by omega)]
        rw [end_loop L To LB h hl (m - 1) k (i + 1) _ (by omega) (by omega) (by omega) (by omega) (by simp; omega)]
        rw [List.append_assoc]
        rfl
      · rw [if_pos (show rd To i ≥ 0 by omega), if_pos t0, if_pos t1, if_pos t0, endL]
        simp only []
        rcases h.lb _ (rd_mem LB (rd To i) t0 t1) with e | e
        · rw [if_pos (show rd LB (rd To i) < 0 by omega), if_pos e]; rfl
        · rw [if_neg (show ¬ rd LB (rd To i) < 0 by omega), if_neg (show ¬ rd LB (rd To i) = -1 by omega), if_pos ho4]
          rw [end_loop L To LB h hl (m - 1) k (i + 1) _ (by omega) (by omega) (by omega) (by omega) (by simp; omega)]
          rw [rd36_mid _ _ _ i ho, set36_mid _ _ _ _ i ho]
    · rw [if_neg hi, List.drop_eq_nil_of_le (show To.length ≤ i.toNat by omega), List.drop_eq_nil_of_le (show L.length ≤ i.toNat by omega), jOf, endL, List.append_nil]
      rfl
theorem end_pure (L : List S36) (To LB : List Int) (h : Ok L To LB) (hl : L.length ≤ 1000) : marlineref27_End.f 1002 L To LB = some (endR (endL LB (jOf 0 To) L)) := by
  unfold marlineref27_End.f
  rw [end_loop L To LB h hl L.length 1002 0 [] (Int.le_refl _) (by omega) (by simp) (by omega) rfl]
  rfl
theorem endL_len (lb : List Int) : ∀ (J : List S49) (out o : List S36), endL lb J out = some o → o.length = out.length
  | [], out, o, h => by rw [endL] at h; injection h with h; rw [h]
  | j :: js, out, o, h => by
    rw [endL] at h
    split at h
    · cases h
    · rw [endL_len lb js _ o h]; simp
theorem same_loop (l : List S36) (hl : l.length ≤ 1000) : ∀ (m k : Nat) (i : Int), 0 ≤ i → l.length - i.toNat = m → m < k → marlineref27_Same.l0 k l l i = some true
  | m, 0, i, _, _, hk => absurd hk (Nat.not_lt_zero _)
  | m, k + 1, i, i0, hm, hk => by
    rw [marlineref27_Same.l0]
    by_cases hi : i < (l.length : Int)
    · have hw : wrap64 (i + 1) = i + 1 := IntWalk.wrap64_in _ (by omega)
      rw [if_pos hi, if_pos i0, if_pos hi, if_neg (by simp), hw]
      exact same_loop l hl (m - 1) k (i + 1) (by omega) (by omega) (by omega)
    · rw [if_neg hi]
theorem same_pure (l : List S36) (hl : l.length ≤ 1000) : marlineref27_Same.f 1002 l l = some true := by
  unfold marlineref27_Same.f
  rw [if_pos rfl]
  exact same_loop l hl l.length 1002 0 (Int.le_refl _) (by simp) (by omega)

/-! ### the two in memory -/
/-- the document's assembly, a local. -/
def Rf (w : World) (h : Nat) (L : List S36) (To LB : List Int) : Prop :=
  ∃ v0 v1 v2, w.heap[h]? = some (.cells #[v0, v1, v2] 29 (0, 0)) ∧ Row k36 36 w v0 L ∧ Row (Kd.int .i64) 3 w v1 To ∧ Row (Kd.int .i64) 3 w v2 LB ∧ ∀ k, v1.ownBlock = some k → v2.ownBlock ≠ some k
theorem As.ch {w w' : World} {g : Nat} {L : List S36} {lb : List Int} {J : List S49} {F : Nat → Prop} (h : As w g L lb J) (hc : Ch F w w') (hF : ∀ k, Foot w g k → ¬ F k) : As w' g L lb J := by
  obtain ⟨v0, v1, v2, hb, h0, h1, h2⟩ := h
  exact ⟨v0, v1, v2, hc.blk hb (hF _ (Foot.self _ _)), h0.ch rfl hc (fun k e => hF k (Foot.mk hb (by simp) e)), h1.ch rfl hc (fun k e => hF k (Foot.mk hb (by simp) e)), h2.ch rfl hc (fun k e => hF k (Foot.mk hb (by simp) e))⟩
theorem Rf.ch {w w' : World} {h : Nat} {L : List S36} {To LB : List Int} {F : Nat → Prop} (r : Rf w h L To LB) (hc : Ch F w w') (hF : ∀ k, Foot w h k → ¬ F k) : Rf w' h L To LB := by
  obtain ⟨v0, v1, v2, hb, h0, h1, h2, ap⟩ := r
  exact ⟨v0, v1, v2, hc.blk hb (hF _ (Foot.self _ _)), h0.ch rfl hc (fun k e => hF k (Foot.mk hb (by simp) e)), h1.ch rfl hc (fun k e => hF k (Foot.mk hb (by simp) e)), h2.ch rfl hc (fun k e => hF k (Foot.mk hb (by simp) e)), ap⟩
theorem As.lt {w : World} {g k : Nat} {L : List S36} {lb : List Int} {J : List S49} (h : As w g L lb J) (hk : Foot w g k) : k < w.heap.size := by
  obtain ⟨v0, v1, v2, hb, h0, h1, h2⟩ := h
  rcases Foot.of hb hk with rfl | ⟨v, hv, e⟩
  · exact blk_lt hb
  · simp at hv
    rcases hv with rfl | rfl | rfl
    · exact h0.lt e
    · exact h1.lt e
    · exact h2.lt e
theorem Rf.lt {w : World} {g k : Nat} {L : List S36} {To LB : List Int} (h : Rf w g L To LB) (hk : Foot w g k) : k < w.heap.size := by
  obtain ⟨v0, v1, v2, hb, h0, h1, h2, ap⟩ := h
  rcases Foot.of hb hk with rfl | ⟨v, hv, e⟩
  · exact blk_lt hb
  · simp at hv
    rcases hv with rfl | rfl | rfl
    · exact h0.lt e
    · exact h1.lt e
    · exact h2.lt e

/-- both, apart from one another and from what was there; o is a block of neither. -/
structure St (w0 w : World) (g h : Nat) (L : List S36) (LB : List Int) (J : List S49) (L2 : List S36) (To LB2 : List Int) : Prop where
  a : As w g L LB J
  r : Rf w h L2 To LB2
  b : Below w0.heap.size w0 w
  ga : ∀ k, Foot w g k → w0.heap.size ≤ k
  ha : ∀ k, Foot w h k → w0.heap.size ≤ k
  dis : ∀ k, Foot w g k → ¬ Foot w h k
section
variable {w0 w w' : World} {g h o : Nat} {L L' L2 L2' : List S36} {LB LB' To To' LB2 LB2' : List Int} {J J' : List S49} {X : Obj}
theorem St.asm (s : St w0 w g h L LB J L2 To LB2) (a : As w' g L' LB' J') (u : Upd g w w') : St w0 w' g h L' LB' J' L2 To LB2 := by
  have hd : ∀ k, Foot w h k → ¬ Foot w g k := fun k hk hg => s.dis k hg hk
  have hs : ∀ k, Foot w' h k ↔ Foot w h k := fun k => Foot.same (by
    obtain ⟨v0, v1, v2, hb, _⟩ := s.r
    exact u.1.block h (blk_lt hb) (hd _ (Foot.self _ _)))
  refine ⟨a, s.r.ch u.1 hd, Ch.to_below s.b u.1 s.ga, fun k hk => ?_, fun k hk => s.ha k ((hs k).1 hk), fun k hk hk' => ?_⟩
  · rcases u.2 k hk with e | e
    · exact s.ga k e
    · exact Nat.le_trans s.b.size e
  · have hk2 := (hs k).1 hk'
    rcases u.2 k hk with e | e
    · exact s.dis k e hk2
    · have := s.r.lt hk2; omega
theorem St.ref (s : St w0 w g h L LB J L2 To LB2) (r : Rf w' h L2' To' LB2') (u : Upd h w w') : St w0 w' g h L LB J L2' To' LB2' := by
  have hs : ∀ k, Foot w' g k ↔ Foot w g k := fun k => Foot.same (by
    obtain ⟨v0, v1, v2, hb, _⟩ := s.a
    exact u.1.block g (blk_lt hb) (s.dis _ (Foot.self _ _)))
  refine ⟨s.a.ch u.1 s.dis, r, Ch.to_below s.b u.1 s.ha, fun k hk => s.ga k ((hs k).1 hk), fun k hk => ?_, fun k hk hk' => ?_⟩
  · rcases u.2 k hk with e | e
    · exact s.ha k e
    · exact Nat.le_trans s.b.size e
  · have hk2 := (hs k).1 hk
    rcases u.2 k hk' with e | e
    · exact s.dis k hk2 e
    · have := s.a.lt hk2; omega
theorem St.below (s : St w0 w g h L LB J L2 To LB2) (hb : Below w.heap.size w w') : St w0 w' g h L LB J L2 To LB2 := by
  have hs : ∀ k, Foot w' g k ↔ Foot w g k := fun k => Foot.same (by
    obtain ⟨v0, v1, v2, hk, _⟩ := s.a
    exact hb.block g (blk_lt hk))
  have hh : ∀ k, Foot w' h k ↔ Foot w h k := fun k => Foot.same (by
    obtain ⟨v0, v1, v2, hk, _⟩ := s.r
    exact hb.block h (blk_lt hk))
  exact ⟨s.a.below hb, s.r.ch (Ch.of_below (F := fun _ => False) hb) (fun _ _ h => h), below_then s.b s.b.size hb, fun k hk => s.ga k ((hs k).1 hk), fun k hk => s.ha k ((hh k).1 hk), fun k hk hk' => s.dis k ((hs k).1 hk) ((hh k).1 hk')⟩
theorem St.drewN (s : St w0 w g h L LB J L2 To LB2) (n : Nat) : St w0 (w.drewN n) g h L LB J L2 To LB2 := s.below (pw_below_drewN (Below.refl _ _) n)
theorem St.drew (s : St w0 w g h L LB J L2 To LB2) : St w0 w.drew g h L LB J L2 To LB2 := s.drewN 1

/-- and a block of neither. -/
structure SO (w0 w : World) (g h o : Nat) (X : Obj) (L : List S36) (LB : List Int) (J : List S49) (L2 : List S36) (To LB2 : List Int) : Prop where
  s : St w0 w g h L LB J L2 To LB2
  O : w.heap[o]? = some X
  og : ¬ Foot w g o
  oh : ¬ Foot w h o
theorem SO.new (s : St w0 w g h L LB J L2 To LB2) (X : Obj) : SO w0 (w.alloc X) g h w.heap.size X L LB J L2 To LB2 := by
  have s' := s.below (below_alloc (Below.refl _ _) X)
  refine ⟨s', ?_, fun hk => ?_, fun hk => ?_⟩
  · exact blk_new w X
  · have e : Foot w g w.heap.size := (Foot.same (by obtain ⟨v0, v1, v2, hk, _⟩ := s.a; exact (below_alloc (Below.refl w.heap.size w) X).block g (blk_lt hk))).1 hk
    have := s.a.lt e; omega
  · have e : Foot w h w.heap.size := (Foot.same (by obtain ⟨v0, v1, v2, hk, _⟩ := s.r; exact (below_alloc (Below.refl w.heap.size w) X).block h (blk_lt hk))).1 hk
    have := s.r.lt e; omega
theorem SO.asm (s : SO w0 w g h o X L LB J L2 To LB2) (a : As w' g L' LB' J') (u : Upd g w w') : SO w0 w' g h o X L' LB' J' L2 To LB2 := by
  refine ⟨s.s.asm a u, u.1.blk s.O s.og, fun hk => ?_, fun hk => ?_⟩
  · rcases u.2 _ hk with e | e
    · exact s.og e
    · have := blk_lt s.O; omega
  · exact s.oh ((Foot.same (by obtain ⟨v0, v1, v2, hb, _⟩ := s.s.r; exact u.1.block h (blk_lt hb) (fun hg => s.s.dis _ hg (Foot.self _ _)))).1 hk)
theorem SO.ref (s : SO w0 w g h o X L LB J L2 To LB2) (r : Rf w' h L2' To' LB2') (u : Upd h w w') : SO w0 w' g h o X L LB J L2' To' LB2' := by
  refine ⟨s.s.ref r u, u.1.blk s.O s.oh, fun hk => ?_, fun hk => ?_⟩
  · exact s.og ((Foot.same (by obtain ⟨v0, v1, v2, hb, _⟩ := s.s.a; exact u.1.block g (blk_lt hb) (s.s.dis _ (Foot.self _ _)))).1 hk)
  · rcases u.2 _ hk with e | e
    · exact s.oh e
    · have := blk_lt s.O; omega
theorem SO.drew (s : SO w0 w g h o X L LB J L2 To LB2) : SO w0 w.drew g h o X L LB J L2 To LB2 := ⟨s.s.drew, s.O, s.og, s.oh⟩
theorem SO.drewN (s : SO w0 w g h o X L LB J L2 To LB2) (n : Nat) : SO w0 (w.drewN n) g h o X L LB J L2 To LB2 := ⟨s.s.drewN n, s.O, s.og, s.oh⟩
end
end Go.Proofs.Ytchmcmbglaffdaa.M
