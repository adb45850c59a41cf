/- The pure statement of FnExactPadMessage: what the printed functions of the program and of the reference compute makes the law answer true, for all arguments (each number of its kind). -/
import Derived.Test.YtceobpekmladdaaPFnExactPadMessagex2
import Derived.Test.YtceobpekmladdaaBase
import Derived.Test.YtceobpekmladdaaSz
set_option linter.unusedVariables false
set_option linter.unusedSimpArgs false
namespace Go.Proofs.Ytceobpekmladdaa.Pure
open Go.RowKit Go.Proofs.Ytceobpekmladdaa.PFnExactPadMessage Go.Proofs.YtceobpekmladdaaW.PrintWords Go.Proofs.YtceobpekmladdaaW.PrintLast Go.Proofs.YtceobpekmladdaaW.PrintMore Go.Proofs.Ytceobpekmladdaa.Base
namespace FnExactPadMessage_
theorem toByteS_l0 (l : List Int) (hl : l.length ≤ 281474976710656) (d : Nat) : ∀ (i : Nat) (x : List Int), i + d = l.length → x.length = l.length → x.take i = l.take i → Ev (fun k => laws_toByteS.l0 k l x (i : Int)) l := by
  induction d with
  | zero =>
    intro i x h hx ht
    have e : x = l := by
      rw [List.take_of_length_le (by omega), List.take_of_length_le (by omega)] at ht
      exact ht
    subst e
    exact Ev.ret fun k => by simp only [laws_toByteS.l0]; rw [if_neg (by omega)]
  | succ d ih =>
    intro i x h hx ht
    have hi : i < l.length := by omega
    refine Ev.step (f := fun k => laws_toByteS.l0 k l (x.set i l[i]) ((i + 1 : Nat) : Int)) (fun k => ?_) ?_
    · simp only [laws_toByteS.l0]
      rw [if_pos (by omega), if_pos (by omega), if_pos (by omega), rd_nat l i hi, w64 (by omega) (by omega)]
      simp only [Int.toNat_natCast]; rfl
    · refine ih (i + 1) _ (by omega) (by rw [List.length_set]; exact hx) ?_
      rw [List.take_succ_eq_append_getElem (by rw [List.length_set]; omega), List.take_succ_eq_append_getElem hi, List.getElem_set_self, List.take_set_of_le (by omega), ht]
theorem toByteS_ev (l : List Int) (hl : l.length ≤ 281474976710656) : Ev (fun k => laws_toByteS.f k l) l := by
  unfold laws_toByteS.f
  simp only [if_pos (show (0 : Int) ≤ (l.length : Int) by omega), if_pos (show ((l.length : Int) : Int).toNat ≤ 281474976710656 by omega)]
  exact toByteS_l0 l hl l.length 0 _ (by omega) (by simp) (by simp)
theorem eqByteS_l0 (l : List Int) (hl : l.length ≤ 4611686018427387904) (d : Nat) : ∀ i : Nat, i + d = l.length → Ev (fun k => laws_eqByteS.l0 k l l (i : Int)) true := by
  induction d with
  | zero =>
    intro i h
    exact Ev.ret fun k => by simp only [laws_eqByteS.l0]; rw [if_neg (by omega)]
  | succ d ih =>
    intro i h
    refine Ev.step (f := fun k => laws_eqByteS.l0 k l l ((i + 1 : Nat) : Int)) (fun k => ?_) (ih (i + 1) (by omega))
    simp only [laws_eqByteS.l0]
    rw [if_pos (by omega), if_pos (by omega), if_pos (by omega), if_pos (by trivial), w64 (by omega) (by omega)]; rfl
theorem eqByteS_self (l : List Int) (hl : l.length ≤ 4611686018427387904) : Ev (fun k => laws_eqByteS.f k l l) true := by
  unfold laws_eqByteS.f
  simp only [if_true]
  exact eqByteS_l0 l hl l.length 0 (by omega)
theorem l1Pack_eq {w : Int} (hw : Wd w) : spec_l1Pack.f w = some (pack4 w) := by
  obtain ⟨_, _⟩ := hw
  unfold spec_l1Pack.f pack4
  rw [Int.tdiv_eq_ediv_of_nonneg (by omega), Int.tdiv_eq_ediv_of_nonneg (by omega), Int.tdiv_eq_ediv_of_nonneg (by omega), w64 (x := w / 16777216) (by omega) (by omega), w64 (x := w / 65536) (by omega) (by omega), w64 (x := w / 256) (by omega) (by omega), Int.tmod_eq_emod_of_nonneg (by omega), Int.tmod_eq_emod_of_nonneg (by omega), Int.tmod_eq_emod_of_nonneg (by omega)]
  simp only [Int.emod_emod]
theorem four_eq (w : Int) : impl_four.f w = some (pack4 w) := rfl
theorem eqBytesResult_self (c : Int) (l : List Int) (hl : l.length ≤ 4611686018427387904) : Ev (fun k => laws_eqBytesResult.f k c l c l) true := by
  unfold laws_eqBytesResult.f
  simp only [if_true]
  refine Ev.bind (eqByteS_self l hl) ?_
  simp only [if_true]
  exact Ev.now _
theorem markByteS_l0 (n : Nat) (hn : n ≤ 281474976710656) (a : Int) (ha : 0 ≤ a) (ha1 : a ≤ 4611686018427387904) (d : Nat) : ∀ (i : Nat) (x : List Int), i + d = n → x.length = n → x.take i = mks a i → Ev (fun k => laws_markByteS.l0 k x (a + i) (i : Int)) (a + n, mks a n) := by
  induction d with
  | zero =>
    intro i x h hx ht
    have e : x = mks a n := by
      rw [show i = n by omega, List.take_of_length_le (by omega)] at ht
      exact ht
    obtain rfl : i = n := by omega
    subst e
    exact Ev.ret fun k => by simp only [laws_markByteS.l0]; rw [if_neg (by rw [mks_length]; omega)]
  | succ d ih =>
    intro i x h hx ht
    have hi : i < x.length := by omega
    refine Ev.step (f := fun k => laws_markByteS.l0 k (x.set i ((a + i) % 256)) (a + ((i + 1 : Nat) : Int)) ((i + 1 : Nat) : Int)) (fun k => ?_) (ih (i + 1) _ (by omega) (by rw [List.length_set]; exact hx) ?_)
    · simp only [laws_markByteS.l0]
      rw [if_pos (by omega), if_pos (by omega), w64 (x := (i : Int) + 1) (by omega) (by omega), w64 (x := a + i + 1) (by omega) (by omega)]
      simp only [Int.toNat_natCast]
      have : a + (i : Int) + 1 = a + ((i + 1 : Nat) : Int) := by omega
      rw [this]; rfl
    · rw [List.take_succ_eq_append_getElem (by rw [List.length_set]; omega), List.getElem_set_self, List.take_set_of_le (by omega), ht, mks_snoc]
theorem markByteS_ev (l : List Int) (hl : l.length ≤ 281474976710656) (a : Int) (ha : 0 ≤ a) (ha1 : a ≤ 4611686018427387904) : Ev (fun k => laws_markByteS.f k l a) (a + l.length, mks a l.length) := by
  have h := markByteS_l0 l.length hl a ha ha1 l.length 0 l (by omega) rfl rfl
  unfold laws_markByteS.f
  simpa only [Int.natCast_zero, Int.add_zero] using h
theorem heldByteS_l0 (n : Nat) (hn : n ≤ 281474976710656) (a : Int) (ha : 0 ≤ a) (ha1 : a ≤ 4611686018427387904) (d : Nat) : ∀ (i : Nat), i + d = n → Ev (fun k => laws_heldByteS.l0 k (mks a n) (a + i) (i : Int)) (a + n) := by
  induction d with
  | zero =>
    intro i h
    obtain rfl : i = n := by omega
    exact Ev.ret fun k => by simp only [laws_heldByteS.l0]; rw [if_neg (by rw [mks_length]; omega)]
  | succ d ih =>
    intro i h
    refine Ev.step (f := fun k => laws_heldByteS.l0 k (mks a n) (a + ((i + 1 : Nat) : Int)) ((i + 1 : Nat) : Int)) (fun k => ?_) (ih (i + 1) (by omega))
    simp only [laws_heldByteS.l0]
    rw [if_pos (by rw [mks_length]; omega), if_pos (by omega), rd_nat _ i (by rw [mks_length]; omega), mks_get a n i (by omega), if_pos rfl, w64 (x := (i : Int) + 1) (by omega) (by omega), w64 (x := a + i + 1) (by omega) (by omega)]
    have : a + (i : Int) + 1 = a + ((i + 1 : Nat) : Int) := by omega
    rw [this]; rfl
theorem heldByteS_ev (n : Nat) (hn : n ≤ 281474976710656) (a : Int) (ha : 0 ≤ a) (ha1 : a ≤ 4611686018427387904) : Ev (fun k => laws_heldByteS.f k (mks a n) a) (a + n) := by
  have h := heldByteS_l0 n hn a ha ha1 n 0 (by omega)
  unfold laws_heldByteS.f
  simpa only [Int.natCast_zero, Int.add_zero] using h
theorem markBytesResult_ev (c : Int) (l : List Int) (hl : l.length ≤ 281474976710656) : Ev (fun k => laws_markBytesResult.f k c l 1) (1 + l.length, mks 1 l.length) := by
  unfold laws_markBytesResult.f
  exact Ev.bind (markByteS_ev l hl 1 (by omega) (by omega)) (Ev.now _)
theorem heldBytesResult_ev (c : Int) (n : Nat) (hn : n ≤ 281474976710656) : Ev (fun k => laws_heldBytesResult.f k c (mks 1 n) 1) (1 + n) := by
  unfold laws_heldBytesResult.f
  refine Ev.bind (heldByteS_ev n hn 1 (by omega) (by omega)) ?_
  rw [if_neg (by omega)]
  exact Ev.now _
theorem CloneB_eq (l : List Int) (h : l.length < 140737488355328) : slices_Clone_byte_byte.f l = some l := by
  unfold slices_Clone_byte_byte.f; rw [if_pos h]
theorem l1Copy_eq (l : List Int) (h : l.length < 140737488355328) : spec_l1Copy.f l = some l := by
  unfold spec_l1Copy.f
  simp only [Option.bind_some, List.nil_append, List.length_nil]
  rw [if_pos (by omega)]
theorem implPad_l0 (l : List Int) (hl : l.length ≤ 1000000) (d : Nat) : ∀ n : Nat, n + d = zerosFor l.length → Ev (fun k => impl_PadMessage.l0 k l (l ++ [128] ++ List.replicate n 0)) (0, padded l) := by
  have hz : zerosFor l.length ≤ 64 := by unfold zerosFor; omega
  have hw : wrap64 ((l.length : Int) * 8) = (l.length : Int) * 8 := w64 (by omega) (by omega)
  induction d with
  | zero =>
    intro n h
    obtain rfl : n = zerosFor l.length := by omega
    refine Ev.ret fun k => ?_
    have hlen : (l ++ [128] ++ List.replicate (zerosFor l.length) 0).length = l.length + 1 + zerosFor l.length := by simp; omega
    simp only [impl_PadMessage.l0, Option.bind_some, four_eq, hw]
    rw [if_pos (by rw [hlen]; unfold zerosFor; omega), if_pos (by rw [hlen]; simp; omega), if_pos (by simp [pack4]; omega)]
    rfl
  | succ d ih =>
    intro n h
    have hlen : (l ++ [128] ++ List.replicate n 0).length = l.length + 1 + n := by simp; omega
    refine Ev.step (fun k => ?_) (ih (n + 1) (by omega))
    simp only [impl_PadMessage.l0]
    rw [if_neg (by rw [hlen]; unfold zerosFor at h; omega), if_pos (by rw [hlen]; omega)]
    simp only [List.append_assoc, ← List.replicate_succ']
theorem implPadMessage_ev (l : List Int) : Ev (fun k => impl_PadMessage.f k l) (padR l) := by
  unfold impl_PadMessage.f padR
  by_cases h : l.length > 700
  · rw [if_pos h]; exact Ev.pos (by omega) (Ev.now _)
  · rw [if_neg h]
    refine Ev.neg (by omega) ?_
    rw [CloneB_eq l (by omega)]
    simp only [Option.bind_some]
    refine Ev.pos (by omega) ?_
    have := implPad_l0 l (by omega) (zerosFor l.length) 0 (by omega)
    simpa only [List.replicate_zero, List.append_nil] using this
theorem l2Pad_l0 (l : List Int) (hl : l.length ≤ 1000000) (d : Nat) : ∀ n : Nat, n + d = zerosFor l.length → Ev (fun k => spec_l2Pad.l0 k l (l ++ [128] ++ List.replicate n 0)) (padded l) := by
  have hz : zerosFor l.length ≤ 64 := by unfold zerosFor; omega
  have hw : wrap64 ((l.length : Int) * 8) = (l.length : Int) * 8 := w64 (by omega) (by omega)
  have hd : Wd ((l.length : Int) * 8) := by unfold Wd; omega
  induction d with
  | zero =>
    intro n h
    obtain rfl : n = zerosFor l.length := by omega
    refine Ev.ret fun k => ?_
    have hlen : (l ++ [128] ++ List.replicate (zerosFor l.length) 0).length = l.length + 1 + zerosFor l.length := by simp; omega
    simp only [spec_l2Pad.l0, Option.bind_some, hw, l1Pack_eq hd]
    rw [if_pos (by rw [hlen]; unfold zerosFor; omega), if_pos (by rw [hlen]; simp; omega), if_pos (by simp [pack4]; omega)]
    rfl
  | succ d ih =>
    intro n h
    have hlen : (l ++ [128] ++ List.replicate n 0).length = l.length + 1 + n := by simp; omega
    refine Ev.step (fun k => ?_) (ih (n + 1) (by omega))
    simp only [spec_l2Pad.l0]
    rw [if_neg (by rw [hlen]; unfold zerosFor at h; omega), if_pos (by rw [hlen]; omega)]
    simp only [List.append_assoc, ← List.replicate_succ']
theorem l2Pad_ev (l : List Int) (hl : l.length ≤ 1000000) : Ev (fun k => spec_l2Pad.f k l) (padded l) := by
  unfold spec_l2Pad.f
  rw [l1Copy_eq l (by omega)]
  simp only [Option.bind_some]
  refine Ev.pos (by omega) ?_
  have := l2Pad_l0 l hl (zerosFor l.length) 0 (by omega)
  simpa only [List.replicate_zero, List.append_nil] using this
theorem specPadMessage_ev (l : List Int) : Ev (fun k => spec_PadMessage.f k l) (padR l) := by
  unfold spec_PadMessage.f padR
  by_cases h : l.length > 700
  · rw [if_pos h]; exact Ev.pos (by omega) (Ev.now _)
  · rw [if_neg h]; exact Ev.neg (by omega) (Ev.bind (l2Pad_ev l (by omega)) (Ev.now _))
theorem FnExactPadMessage : laws_FnExactPadMessage.Pure := by
  intro l0 _ h0 b0
  have hl := padR_len l0
  apply Ev.rounds
  unfold laws_FnExactPadMessage.f
  by_cases hbig : (l0.length : Int) > 1048576
  · exact Ev.pos hbig (Ev.now _)
  refine Ev.neg hbig (Ev.bind (toByteS_ev l0 (by omega)) (Ev.bind (specPadMessage_ev l0) (Ev.bind (toByteS_ev l0 (by omega)) (Ev.bind (implPadMessage_ev l0) (Ev.bind (eqBytesResult_self _ _ (by omega)) (Ev.pos rfl (Ev.bind (toByteS_ev l0 (by omega)) (Ev.bind (eqByteS_self l0 (by omega)) (Ev.pos rfl (Ev.bind (markByteS_ev l0 (by omega) 1 (by omega) (by omega)) (Ev.neg (by omega) (Ev.bind (eqBytesResult_self _ _ (by omega)) ?_))))))))))))
  refine Ev.step (fun k => by simp only [laws_FnExactPadMessage.j0]; rfl) (Ev.neg (by decide) ?_)
  refine Ev.bind (markBytesResult_ev _ _ (by omega)) (Ev.bind (heldBytesResult_ev _ _ (by omega)) (Ev.neg (by omega) (Ev.pos rfl ?_)))
  refine Ev.bind (toByteS_ev l0 (by omega)) (Ev.bind (implPadMessage_ev l0) (Ev.bind (eqBytesResult_self _ _ (by omega)) (Ev.pos rfl ?_)))
  exact Ev.bind (heldBytesResult_ev _ _ (by omega)) (Ev.neg (by omega) (Ev.pos rfl (Ev.now _)))
end FnExactPadMessage_
theorem FnExactPadMessage : laws_FnExactPadMessage.Pure := FnExactPadMessage_.FnExactPadMessage
end Go.Proofs.Ytceobpekmladdaa.Pure
