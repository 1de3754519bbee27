/- Marline, layer 41: the schedule of a text. Conditions: as each says. -/
import Derived.Test.YtfofpammnfcmiaaDoorSa
namespace Go.Proofs.YtfofpammnfcmiaaDoor.E
open Go.RowKit Go.Proofs.YtfofpammnfcmiaaDoorW.PrintWords Go.Proofs.YtfofpammnfcmiaaDoorW.PrintLast Go.Proofs.YtfofpammnfcmiaaDoorW.PrintMore Go.Proofs.YtfofpammnfcmiaaDoor.Kinds Go.Proofs.YtfofpammnfcmiaaDoor.Obj Go.Proofs.YtfofpammnfcmiaaDoor.Sp
set_option linter.unusedVariables false
set_option linter.unusedSimpArgs false

/-- what is told of a text: 0, it is a schedule's; 1, it isn't. -/
def errP (o : Option (List Pk)) : Int := if o.isSome then 0 else 1
theorem info32 : (Tryd.prog.info? 32).map (fun i => (i.zero, i.size, i.bytes)) = some (some (.agg #[.int .i64 0, .int .i64 0, .bool false]), 3, 24) := by kernel_rfl
theorem entries_drop (P : List (List UInt8)) (j : Nat) (h : j < P.length) : entriesS (P.drop j) = if (entryS (P.getD j [])).2 then (entriesS (P.drop (j + 1))).map ((entryS (P.getD j [])).1 :: ·) else none := by
  have e : P.drop j = P.getD j [] :: P.drop (j + 1) := by
    rw [List.drop_eq_getElem_cons h]; simp [List.getD, List.getElem?_eq_getElem h]
  rw [e, entriesS]
set_option maxHeartbeats 4000000 in
set_option maxRecDepth 100000 in
theorem parse_calls (s : ByteArray) (w : World) (hs : s.size ≤ 1000000000) (h : Lw w) :
    Calls Tryd.prog 16 #[.string s] w fun e w' => ∃ v, e = .returned (.tuple #[v, .int .i64 (errP (parseS s.data.toList))]) ∧ Kd.R k32 32 w' w.heap.size (fun _ => True) v (((parseS s.data.toList).getD []).map mk) ∧ Below w.heap.size w w' := by
  have hu32 := Tryd.underlying32
  obtain ⟨o, ho⟩ : ∃ o, parseS s.data.toList = o := ⟨_, rfl⟩
  rw [ho]
  by_cases h0 : s.data.toList = []
  · have hp : o = some [] := by rw [← ho]; unfold parseS; rw [if_pos h0]
    subst hp
    have he : s = ⟨#[]⟩ := by
      have : s.data = #[] := by rw [← Array.toList_eq_nil_iff]; exact h0
      cases s; simp at this; rw [this]
    subst he
    clear ho h0 hs h
    go_enter Tryd.func16, Tryd.ntmps16
    go_wp2_with fail
    go_ret2
    exact ⟨_, rfl, Kd.R_nil _ _ _ _ _, Below.refl _ _⟩
  · have hp : entriesS (pieces 32 s.data.toList) = o := by rw [← ho]; unfold parseS; rw [if_neg h0]
    have hne : s.toList.isEmpty = false := by
      rw [ByteArray.toList_eq]
      cases hd : s.data.toList with
      | nil => exact absurd hd h0
      | cons _ _ => rfl
    obtain ⟨m, hm⟩ := h.m
    have C1 := Lib.hid (Tryd.strings_Split s ⟨#[32]⟩ m w (by omega) hm (by decide))
    obtain ⟨P, hP⟩ : ∃ P, Lib.splitB ⟨#[32]⟩ 0 (Lib.countB s ⟨#[32]⟩) s = P := ⟨_, rfl⟩
    have hPd := splitB_pieces 32 s
    have hPl := Lib.splitB_all ⟨#[32]⟩ (by decide) 0 _ s rfl
    have hcl := Lib.countB_le ⟨#[32]⟩ (by decide) _ s (Nat.le_refl _)
    rw [hP] at C1 hPd hPl
    rw [← hPd] at hp
    rw [← hPl] at C1
    have hPs : P.length ≤ 1000000001 := by omega
    obtain ⟨b, hb⟩ : ∃ b, w.heap.size = b := ⟨_, rfl⟩
    obtain ⟨Q, hQ⟩ : ∃ Q : List (List UInt8), P.map (·.data.toList) = Q := ⟨_, rfl⟩
    have hQl : Q.length = P.length := by rw [← hQ]; simp
    have hQg : ∀ j x, P[j]? = some x → Q.getD j [] = x.data.toList := by
      intro j x hx
      rw [← hQ]; simp [List.getD, hx]
    have hxs : ∀ x, x ∈ P → x.size ≤ 1000000000 := by
      intro x hx
      have h1 : x.data.toList ∈ pieces 32 s.data.toList := by rw [← hPd]; exact List.mem_map.2 ⟨x, hx, rfl⟩
      have h2 : x.data.toList.length ≤ s.data.toList.length := by
        have : ∀ (l p : List UInt8), p ∈ pieces 32 l → p.length ≤ l.length := by
          intro l
          induction l with
          | nil => intro p hp; simp [pieces] at hp; subst hp; simp
          | cons c r ih =>
            intro p hp
            unfold pieces at hp
            split at hp
            · rcases List.mem_cons.1 hp with hp | hp
              · subst hp; simp
              · have := ih p hp; simp; omega
            · split at hp
              · simp at hp; subst hp; simp
              · rename_i q qs hq
                rcases List.mem_cons.1 hp with hp | hp
                · subst hp; have := ih q (by rw [hq]; exact List.mem_cons_self); simp; omega
                · have := ih p (by rw [hq]; exact List.mem_cons_of_mem _ hp); simp; omega
        exact this _ _ h1
      show x.data.toList.length ≤ _
      have : s.data.toList.length = s.size := rfl
      omega
    rw [hQ] at hp
    have HP := Lib.hid hp; have HQL := Lib.hid hQl; have HQG := Lib.hid hQg; have HXS := Lib.hid hxs
    have HB := Lib.hid hb; have HL := Lib.hid h; have HPS := Lib.hid hPs
    clear ho h0 hm hP hPd hPl hcl hp hs hb hQ hQl hQg hxs h
    go_enter Tryd.func16, Tryd.ntmps16
    go_wp2_with fail
    refine C1.out.mono ?_
    rintro e w1 ⟨rfl, rfl⟩
    clear C1
    have S1 : Hid ((w.alloc (.cells (P.map Value.string).toArray 9)).heap[b]? = some (.cells (P.map Value.string).toArray 9 (0, 0))) := Lib.hid (by rw [← HB.out]; exact blk_new w _)
    have B1 : Hid (Below w.heap.size w (w.alloc (.cells (P.map Value.string).toArray 9))) := Lib.hid (below_alloc (Below.refl _ _) _)
    rw [HB.out]
    generalize w.alloc (.cells (P.map Value.string).toArray 9) = w1 at S1 B1 ⊢
    go_wp2_with fail
    go_loopw [4, 14] (fun out idx w' => ∃ (j : Nat) (D : List Pk) (L : List S32), idx = .int .i64 j ∧ j ≤ P.length ∧ Hid (L.length = j ∧ D.map mk = L) ∧ Hid ((entriesS (Q.drop j)).map (D ++ ·) = o) ∧ Hid (Kd.R k32 32 w' w.heap.size (fun k => k ≠ b) out L) ∧ Hid (Below w.heap.size w w') ∧ Hid (w'.heap[b]? = some (.cells (P.map Value.string).toArray 9 (0, 0)))) (fun out idx _ => P.length - (intOf idx).toNat)
    case atStart => exact ⟨0, [], [], rfl, Nat.zero_le _, Lib.hid ⟨rfl, rfl⟩, Lib.hid (by rw [← HP.out, List.drop_zero]; cases entriesS Q <;> simp), Lib.hid (Kd.R_nil _ _ _ _ _), B1, S1⟩
    case round =>
      obtain ⟨j, D, L, rfl, hj, HD, HM, HR, HB2, HS⟩ := hrel
      obtain ⟨A, c, rfl⟩ := Kd.R_slice HR.out
      by_cases hlt : j < P.length
      · obtain ⟨x, hx⟩ : ∃ x, P[j]? = some x := ⟨P[j], List.getElem?_eq_getElem hlt⟩
        have hcell : wr.cell? ⟨b, j, none⟩ = some (.string x) := (blk_cell HS.out j).trans (by simp [hx])
        have HX := Lib.hid hx
        have hxm := HXS.out x (List.mem_of_getElem? hx)
        have C2 := Lib.hid (entry_calls x wr (by omega) (HL.out.below HB2.out))
        have hst := entries_drop Q j (by rw [HQL.out]; exact hlt)
        rw [HQG.out j x hx] at hst
        obtain ⟨p, ok, hpo⟩ : ∃ p ok, entryS x.data.toList = (p, ok) := ⟨_, _, rfl⟩
        rw [hpo] at C2 hst
        have HST := Lib.hid hst
        have HPO := Lib.hid hpo
        clear hx hxm hst hpo
        go_wp2_with fail
        refine C2.out.mono ?_
        rintro e w2 ⟨rfl, b2⟩
        have HR2 := Lib.hid (Kd.R_below HR.out b2)
        have HS2 := Lib.hid (blk_below HS.out b2)
        have HB3 := Lib.hid (HB2.out.trans (b2.mono HB2.out.size))
        clear b2 C2 HR HS HB2 hcell
        obtain ⟨y, hy⟩ : ∃ y, mk p = y := ⟨_, rfl⟩
        rw [hy]
        have HY := Lib.hid hy
        clear hy
        have e8 : ev y = .agg #[.int .i64 y.f0, .int .i64 y.f1, .bool y.f2] := rfl
        rw [e8]
        clear e8
        go_upto_region 8 with (fail)
        obtain ⟨g, hg⟩ : ∃ g, w2.heap.size = g := ⟨_, rfl⟩
        have H3 : ∃ w3 : World, w2.alloc (.cells #[.int .i64 y.f0, .int .i64 y.f1, .bool y.f2] 32) = w3 ∧ Pv w3 g y ∧ Kd.R k32 32 w3 w.heap.size (fun k => k ≠ b) (.slice A L.length c) L ∧ w3.heap[b]? = some (.cells (P.map Value.string).toArray 9 (0, 0)) ∧ Below w.heap.size w w3 :=
          ⟨_, rfl, by rw [← hg]; exact blk_new w2 _, Kd.R_alloc HR2.out _, blk_alloc HS2.out _, below_alloc HB3.out _⟩
        rw [hg]
        obtain ⟨w3, hw3, v3, r3, s3, b3⟩ := H3
        rw [hw3]
        have V3 := Lib.hid v3; have R3 := Lib.hid r3; have S3 := Lib.hid s3; have B3 := Lib.hid b3
        have SZ3 := Lib.hid (show b < w3.heap.size from blk_lt s3)
        obtain ⟨k0, k1, k2, f0, f1, f2⟩ := v3.cells
        clear hw3 v3 r3 s3 b3 HR2 HS2 HB3 hg
        cases ok with
        | false =>
          have HN := Lib.hid (show o = none by rw [← HM.out, HST.out]; rfl)
          go_wp2_with fail
          go_ret2
          rw [HN.out]
          exact ⟨_, rfl, Kd.R_nil _ _ _ _ _, B3.out⟩
        | true =>
          have hl24 : (L.length + 1) * 24 ≤ 140737488355328 := by have := HD.out.1; omega
          have HL24 := Lib.hid hl24
          have BS := Lib.hid (show w.heap.size ≤ w3.heap.size from B3.out.size)
          clear hl24
          go_wp2_with ((with_reducible refine gate_builtin (b := .append) (xs := #[.tmp 25, .tmp 27]) rfl ?_); at_builtin; refine Kd.R_append k32 (w0 := w) w.heap.size rfl (.tmp 25) (.tmp 27) 23 32 (.agg #[(.int .i64 0), (.int .i64 0), (.bool false)]) 24 rfl Tryd.underlying23 info32 rfl (by decide) (by decide) (.slice A L.length c) L y [.int .i64 y.f0, .int .i64 y.f1, .bool y.f2] (fun k => k ≠ b) (fun _ => False) rfl rfl (k32_mkM _ _ _ y) (fun _ hk => hk.elim) (fun k hk => by have := SZ3.out; omega) R3.out B3.out BS.out HL24.out ?_; intro v4 w4 ho hb4 hg4 hat; have HO := Lib.hid ho; have HB4 := Lib.hid hb4; have HS4 := Lib.hid (blk_grown S3.out hg4 (Kd.R_away R3.out (fun k hk => hk))); clear ho hb4 hg4 hat)
          go_roundw
          case rel =>
            refine ⟨j + 1, D ++ [p], L ++ [y], by push_cast; rfl, by omega, Lib.hid ⟨by rw [List.length_append, HD.out.1]; rfl, by rw [List.map_append, HD.out.2, ← HY.out]; rfl⟩, Lib.hid ?_, HO, HB4, HS4⟩
            · rw [← HM.out, HST.out]
              cases entriesS (Q.drop (j + 1)) <;> simp
          case measure => simp [intOf]; omega
      · have hje : j = P.length := by omega
        have HN := Lib.hid (show o = some D by rw [← HM.out, List.drop_of_length_le (by rw [HQL.out]; omega)]; simp [entriesS])
        subst hje
        go_wp2_with fail
        go_ret2
        rw [HN.out]
        refine ⟨_, rfl, ?_, HB2.out⟩
        rw [show (Option.getD (some D) []).map mk = L from HD.out.2]
        exact Kd.R_mono HR.out (fun _ _ => trivial)
end Go.Proofs.YtfofpammnfcmiaaDoor.E
