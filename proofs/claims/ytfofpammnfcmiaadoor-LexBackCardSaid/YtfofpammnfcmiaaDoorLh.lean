/- Marline, layer 10: what the document's lexer comes to: one token, all. Conditions: as each says. -/
import Derived.Test.YtfofpammnfcmiaaDoorLg
namespace Go.Proofs.YtfofpammnfcmiaaDoor.Lx
open Go.RowKit Go.Proofs.YtfofpammnfcmiaaDoorW.PrintWords Go.Proofs.YtfofpammnfcmiaaDoorW.PrintLast Go.Proofs.YtfofpammnfcmiaaDoor.Kinds Go.Proofs.YtfofpammnfcmiaaDoor.E
set_option linter.unusedVariables false
set_option linter.unusedSimpArgs false
set_option maxRecDepth 100000
theorem tok1_cons (W : Words) (c : UInt8) (r : List UInt8) (p : Nat) : tok1 W (c :: r) p = if letterB c = true then (⟨if W.isW ((c :: r).takeWhile nameB) = true then 3 else 1, p, 0, (c :: r).takeWhile nameB⟩, if 32 < ((c :: r).takeWhile nameB).length then 3 else 0)
    else if digitB c = true then (⟨2, p, (W.rd ((c :: r).takeWhile digitB)).1, (c :: r).takeWhile digitB⟩, (W.rd ((c :: r).takeWhile digitB)).2)
    else (⟨4, p, 0, W.mkW (c :: r)⟩, if W.mkW (c :: r) = [] then 1 else 0) := rfl
theorem one_is (s : ByteArray) (p : Nat) (hs : s.size ≤ 1000000000) (hp : p < s.size) (k : Nat) (hk : 3 * s.size + 200 ≤ k) :
    ∃ v, PL.marlineref10_one.f k s (p : Int) = some v ∧ v.2.2.2.2 = (tok1 W0 (s.data.toList.drop p) p).2 ∧ ((tok1 W0 (s.data.toList.drop p) p).2 = 0 → v = ((tok1 W0 (s.data.toList.drop p) p).1.kind, (p : Int), (tok1 W0 (s.data.toList.drop p) p).1.n, ⟨(tok1 W0 (s.data.toList.drop p) p).1.text.toArray⟩, 0)) := by
  have hlen : s.data.toList.length = s.size := rfl
  have hd : s.data.toList.drop p = s.data.toList.getD p 0 :: s.data.toList.drop (p + 1) := drop_get _ p (by omega)
  obtain ⟨c, hc⟩ : ∃ c, s.data.toList.getD p 0 = c := ⟨_, rfl⟩
  have hb : bt s (p : Int) = (c.toNat : Int) := by rw [bt_get s p hp, hc]
  rw [hc] at hd
  have ht := tok1_cons W0 c (s.data.toList.drop (p + 1)) p
  rw [← hd] at ht
  unfold PL.marlineref10_one.f
  rw [if_pos (by omega), if_pos (by omega), hb, class_is c k (by omega), Option.bind_some]
  by_cases h1 : letterB c = true
  · have e : cls c = 1 := by unfold cls; rw [if_pos h1]
    rw [if_pos h1] at ht
    have hle := while_le nameB (s.data.toList.drop p)
    rw [List.length_drop] at hle
    rw [e, if_pos rfl]
    have := one_l0 s p _ hs rfl hp _ 0 k (Nat.zero_add _) (by omega)
    rw [Nat.add_zero] at this
    rw [this, ht]
    refine ⟨_, rfl, rfl, ?_⟩
    intro h0
    simp only at h0 ⊢
    rw [h0]; rfl
  · rw [if_neg h1] at ht
    by_cases h2 : digitB c = true
    · have e : cls c = 2 := by unfold cls; rw [if_neg h1, if_pos h2]
      rw [if_pos h2] at ht
      have hle := while_le digitB (s.data.toList.drop p)
      rw [List.length_drop] at hle
      rw [e, if_neg (by decide), if_pos rfl]
      have := one_l1 s p _ hs rfl hp _ 0 k (Nat.zero_add _) (by omega)
      rw [Nat.add_zero] at this
      rw [this, ht]
      refine ⟨_, rfl, rfl, ?_⟩
      intro h0
      simp only at h0 ⊢
      rw [show (readS (List.takeWhile digitB (List.drop p s.data.toList))).2 = 0 from h0]; rfl
    · rw [if_neg h2] at ht
      have e : cls c ≠ 1 ∧ cls c ≠ 2 := by
        unfold cls; rw [if_neg h1, if_neg h2]
        split
        · decide
        · split <;> decide
      have hm : mn (wrap64 ((p : Int) + 2)) (s.size : Int) = ((min (p + 2) s.size : Nat) : Int) := by
        have : wrap64 ((p : Int) + 2) = (p : Int) + 2 := by unfold wrap64; omega
        rw [this]; unfold mn; omega
      have hx : (s.extract (p : Int).toNat ((min (p + 2) s.size : Nat) : Int).toNat).data.toList = (s.data.toList.drop p).take 2 := by
        rw [ext_data]
        simp only [Int.toNat_natCast]
        by_cases h3 : p + 2 ≤ s.size
        · rw [show min (p + 2) s.size - p = 2 by omega]
        · rw [List.take_of_length_le (by rw [List.length_drop]; omega), List.take_of_length_le (by rw [List.length_drop]; omega)]
      rw [if_neg e.1, if_neg e.2, hm, if_pos (by omega), if_pos (by omega), markref _ k (by omega), Option.bind_some, hx, markS_two, ht]
      have e3 : (⟨(markS (s.data.toList.drop p)).toArray⟩ : ByteArray).toList = markS (s.data.toList.drop p) := by rw [ByteArray.toList_eq]
      rw [e3]
      have e4 : W0.mkW (s.data.toList.drop p) = markS (s.data.toList.drop p) := rfl
      rw [e4]
      by_cases h4 : markS (s.data.toList.drop p) = []
      · rw [if_pos h4, if_pos h4]
        exact ⟨_, rfl, rfl, fun h => absurd (show (1 : Int) = 0 from h) (by decide)⟩
      · rw [if_neg h4, if_neg h4]
        exact ⟨_, rfl, rfl, fun _ => rfl⟩
/-- as allF, in a remark or not. -/
def allM (W : Words) (b : Bool) : Nat → List UInt8 → Nat → Except (Nat × Int) (List Tok)
  | 0, _, _ => .ok []
  | f + 1, l, p =>
    if l.drop (skipM b l) = [] then .ok [⟨0, p + skipM b l, 0, []⟩]
    else if (tok1 W (l.drop (skipM b l)) (p + skipM b l)).2 = 0 then
      (allF W f ((l.drop (skipM b l)).drop (tok1 W (l.drop (skipM b l)) (p + skipM b l)).1.text.length) (p + skipM b l + (tok1 W (l.drop (skipM b l)) (p + skipM b l)).1.text.length)).map ((tok1 W (l.drop (skipM b l)) (p + skipM b l)).1 :: ·)
    else .error (p + skipM b l, (tok1 W (l.drop (skipM b l)) (p + skipM b l)).2)
theorem allM_false (W : Words) (f : Nat) (l : List UInt8) (p : Nat) : allM W false (f + 1) l p = allF W (f + 1) l p := by rw [allM, allF]
theorem allM_step (W : Words) (b b2 : Bool) (c : UInt8) (r : List UInt8) (f p : Nat) (h : skipM b (c :: r) = skipM b2 r + 1) : allM W b (f + 1) (c :: r) p = allM W b2 (f + 1) r (p + 1) := by
  rw [allM, allM, h]
  simp only [List.drop_succ_cons]
  rw [show p + (skipM b2 r + 1) = p + 1 + skipM b2 r by omega]
def outR (acc : List S44) (x : Except (Nat × Int) (List Tok)) : List S44 × Int × Int := match x with
  | .ok ts => (acc ++ ts.map enc, 0, 0)
  | .error e => ([], (e.1 : Int), e.2)
theorem outR_map (acc : List S44) (t : Tok) (x : Except (Nat × Int) (List Tok)) : outR acc (x.map (t :: ·)) = outR (acc ++ [enc t]) x := by
  cases x with
  | error e => rfl
  | ok ts => show (_, _, _) = (_, _, _); simp
set_option maxHeartbeats 2000000 in
theorem all_l (s : ByteArray) (hs : s.size ≤ 1000000) : ∀ (d p k f : Nat) (acc : List S44), p + d = s.size → 3 * d + 3 * s.size + 300 ≤ k → d ≤ f → acc.length ≤ p →
    PL.marlineref10_All.l0 k s acc (p : Int) = some (outR acc (allF W0 (f + 1) (s.data.toList.drop p) p)) ∧ PL.marlineref10_All.l1 (k + 1) s acc (p : Int) = some (outR acc (allM W0 true (f + 1) (s.data.toList.drop p) p)) := by
  have hlen : s.data.toList.length = s.size := rfl
  intro d
  induction d using Nat.strongRecOn with
  | _ d ih =>
  intro p k f acc hp hk hf ha
  obtain ⟨k, rfl⟩ : ∃ q, k = q + 1 := ⟨k - 1, by omega⟩
  by_cases hpe : p < s.size
  · have hd : s.data.toList.drop p = s.data.toList.getD p 0 :: s.data.toList.drop (p + 1) := drop_get _ p (by omega)
    obtain ⟨c, hc⟩ : ∃ c, s.data.toList.getD p 0 = c := ⟨_, rfl⟩
    have hb : bt s (p : Int) = (c.toNat : Int) := by rw [bt_get s p hpe, hc]
    rw [hc] at hd
    have hw : wrap64 ((p : Int) + 1) = ((p + 1 : Nat) : Int) := by unfold wrap64; omega
    have key : PL.marlineref10_All.l0 (k + 1) s acc (p : Int) = some (outR acc (allF W0 (f + 1) (s.data.toList.drop p) p)) := by
      rw [PL.marlineref10_All.l0, if_pos (by omega), if_pos (by omega), hb, class_is c k (by omega), Option.bind_some]
      by_cases h3 : blankB c = true
      · have e : cls c = 3 := by
          have h := of_decide_eq_true h3
          unfold cls
          rw [if_neg ?_, if_neg ?_, if_pos h3]
          · intro h5; have := of_decide_eq_true h5; omega
          · intro h5; have := of_decide_eq_true h5; omega
        have e2 : skipM false (c :: s.data.toList.drop (p + 1)) = skipM false (s.data.toList.drop (p + 1)) + 1 := by rw [skipM, if_pos h3]
        rw [e, if_pos rfl, hw, (ih (d - 1) (by omega) (p + 1) k f acc (by omega) (by omega) (by omega) (by omega)).1, hd, ← allM_false W0 f (c :: _) p, allM_step W0 false false c _ f p e2, allM_false]
      · by_cases h4 : c.toNat = 35
        · have e : cls c = 4 := by
            unfold cls
            rw [if_neg ?_, if_neg ?_, if_neg h3, if_pos h4]
            · intro h5; have := of_decide_eq_true h5; omega
            · intro h5; have := of_decide_eq_true h5; omega
          have e2 : skipM false (c :: s.data.toList.drop (p + 1)) = skipM true (s.data.toList.drop (p + 1)) + 1 := by rw [skipM, if_neg h3, if_pos h4]
          obtain ⟨k, rfl⟩ : ∃ q, k = q + 1 := ⟨k - 1, by omega⟩
          rw [e, if_neg (by decide), if_pos rfl, PL.marlineref10_All.l1, if_pos (by omega), if_pos (by omega), hb, if_neg (by omega), hw]
          obtain ⟨k, rfl⟩ : ∃ q, k = q + 1 := ⟨k - 1, by omega⟩
          rw [(ih (d - 1) (by omega) (p + 1) k f acc (by omega) (by omega) (by omega) (by omega)).2, hd, ← allM_false W0 f (c :: _) p, allM_step W0 false true c _ f p e2]
        · have e : cls c ≠ 3 ∧ cls c ≠ 4 := by
            unfold cls; rw [if_neg h3, if_neg h4]
            split
            · decide
            · split <;> decide
          have e2 : skipM false (s.data.toList.drop p) = 0 := by rw [hd, skipM, if_neg h3, if_neg h4]
          obtain ⟨v, hv, hv1, hv2⟩ := one_is s p (by omega) hpe k (by omega)
          have hne : s.data.toList.drop p ≠ [] := by rw [hd]; simp
          have hpre := fun h => tok_pre (W := W0) (p := p) w0_ok hne h
          have hall : allF W0 (f + 1) (s.data.toList.drop p) p = if (tok1 W0 (s.data.toList.drop p) p).2 = 0 then (allF W0 f ((s.data.toList.drop p).drop (tok1 W0 (s.data.toList.drop p) p).1.text.length) (p + (tok1 W0 (s.data.toList.drop p) p).1.text.length)).map ((tok1 W0 (s.data.toList.drop p) p).1 :: ·) else .error (p, (tok1 W0 (s.data.toList.drop p) p).2) := by
            rw [allF, e2]
            simp only [List.drop_zero, Nat.add_zero]
            rw [if_neg hne]
          rw [hall]
          rw [if_neg e.1, if_neg e.2, hv, Option.bind_some]
          obtain ⟨T, hT⟩ : ∃ T, tok1 W0 (s.data.toList.drop p) p = T := ⟨_, rfl⟩
          rw [hT] at hv1 hv2 hpre ⊢
          clear hall hv hT
          obtain ⟨t, er⟩ := T
          simp only at hv1 hv2 hpre ⊢
          rw [hv1]
          by_cases h5 : er = 0
          · obtain ⟨k1, k2, k3⟩ := hpre h5
            have hv3 := hv2 h5
            have htl : 0 < t.text.length := List.length_pos_iff.2 k2
            have hle := congrArg List.length k1
            rw [List.length_append, List.length_drop] at hle
            obtain ⟨tl, htl2⟩ : ∃ tl, t.text.length = tl := ⟨_, rfl⟩
            rw [htl2] at htl hle
            obtain ⟨d2, hd2⟩ : ∃ z, d = z + tl := ⟨d - tl, by omega⟩
            have q1 : d2 < d := by omega
            have q2 : p + tl + d2 = s.size := by omega
            have q3 : 3 * d2 + 3 * s.size + 300 ≤ k := by omega
            obtain ⟨f, hf2⟩ : ∃ q, f = q + 1 := ⟨f - 1, by omega⟩
            have q4 : d2 ≤ f := by omega
            have q5 : (acc ++ [enc t]).length ≤ p + tl := by rw [List.length_append, List.length_singleton]; omega
            have q6 : acc.length < 3518437208883 := by omega
            have q7 : wrap64 ((p : Int) + (tl : Int)) = ((p + tl : Nat) : Int) := by unfold wrap64; omega
            have hI := (ih d2 q1 (p + tl) k f (acc ++ [enc t]) q2 q3 q4 q5).1
            have hsz : (⟨t.text.toArray⟩ : ByteArray).size = tl := by rw [← htl2]; show Array.size _ = _; simp
            have he : (⟨t.kind, (p : Int), t.n, ⟨t.text.toArray⟩⟩ : S44) = enc t := by unfold enc; rw [k3]
            subst hf2
            rw [if_pos h5, if_pos h5, if_pos q6, hv3]
            simp only
            rw [he, hsz, q7, hI, outR_map, List.drop_drop, htl2]
          · rw [if_neg h5, if_neg h5]; rfl
    refine ⟨key, ?_⟩
    rw [PL.marlineref10_All.l1, if_pos (by omega), if_pos (by omega), hb]
    by_cases h10 : c.toNat = 10
    · have h3 : blankB c = true := by unfold blankB; exact decide_eq_true (by omega)
      have e2 : skipM true (c :: s.data.toList.drop (p + 1)) = skipM false (s.data.toList.drop (p + 1)) + 1 := by rw [skipM, if_pos h10]
      have e3 : skipM false (c :: s.data.toList.drop (p + 1)) = skipM false (s.data.toList.drop (p + 1)) + 1 := by rw [skipM, if_pos h3]
      rw [if_pos (by omega), key, hd, allM_step W0 true false c _ f p e2, ← allM_false W0 f (c :: _) p, allM_step W0 false false c _ f p e3]
    · have e2 : skipM true (c :: s.data.toList.drop (p + 1)) = skipM true (s.data.toList.drop (p + 1)) + 1 := by rw [skipM, if_neg h10]
      rw [if_neg (by omega), hw, (ih (d - 1) (by omega) (p + 1) k f acc (by omega) (by omega) (by omega) (by omega)).2, hd, allM_step W0 true true c _ f p e2]
  · have hd : s.data.toList.drop p = [] := List.drop_of_length_le (by omega)
    have key : PL.marlineref10_All.l0 (k + 1) s acc (p : Int) = some (outR acc (allF W0 (f + 1) (s.data.toList.drop p) p)) := by
      rw [PL.marlineref10_All.l0, if_neg (by omega), if_pos (by omega), hd, all_nil]
      have : (s.size : Int) = (p : Int) := by omega
      rw [this]; rfl
    refine ⟨key, ?_⟩
    rw [PL.marlineref10_All.l1, if_neg (by omega), key, hd, all_nil, allM]
    simp [skipM]
/-- what All comes to. -/
def allS (l : List UInt8) : Except (Nat × Int) (List Tok) := if 16384 < l.length then .error (16384, 3) else allF W0 (l.length + 1) l 0
theorem all_is (s : ByteArray) (hs : s.size ≤ 1000000) : PL.marlineref10_All.f (6 * s.size + 400) s = some (outR [] (allS s.data.toList)) := by
  have hlen : s.data.toList.length = s.size := rfl
  unfold PL.marlineref10_All.f allS
  by_cases h : (s.size : Int) > 16384
  · rw [if_pos h, if_pos (by omega)]; rfl
  · rw [if_neg h, if_neg (by omega)]
    exact (all_l s hs s.size 0 _ s.size [] (by omega) (by omega) (Nat.le_refl _) (Nat.zero_le _)).1
end Go.Proofs.YtfofpammnfcmiaaDoor.Lx
