/- The pure statement of FnExactPackChunk: what the printed functions of the program and of the reference compute makes the law answer true, for all arguments (each number of its kind). -/
import Derived.Test.YtglphklcfpgjbaaPFnExactPackChunkx4
import Derived.Test.YtglphklcfpgjbaaBase
set_option linter.unusedVariables false
set_option linter.unusedSimpArgs false
namespace Go.Proofs.Ytglphklcfpgjbaa.Pure
open Go.RowKit Go.Proofs.Ytglphklcfpgjbaa.PFnExactPackChunk Go.Proofs.YtglphklcfpgjbaaW.PrintWords Go.Proofs.YtglphklcfpgjbaaW.PrintLast Go.Proofs.YtglphklcfpgjbaaW.PrintMore Go.Proofs.Ytglphklcfpgjbaa.Base
namespace FnExactPackChunk_
theorem l1In_eq (a b c : Int) : spec_l1In.f a b c = some (inB a b c) := ge_le
theorem within_eq (a b c : Int) : impl_within.f a b c = some (inB a b c) := ge_le
theorem toByteS_l0 (l : List Int) (hl : l.length ≤ 281474976710656) (d : Nat) : ∀ (i : Nat) (x : List Int), i + d = l.length → x.length = l.length → x.take i = l.take i → Ev (fun k => laws_toByteS.l0 k l x (i : Int)) l := by
  induction d with
  | zero =>
    intro i x h hx ht
    have e : x = l := by
      rw [List.take_of_length_le (by omega), List.take_of_length_le (by omega)] at ht
      exact ht
    subst e
    exact Ev.ret fun k => by simp only [laws_toByteS.l0]; rw [if_neg (by omega)]
  | succ d ih =>
    intro i x h hx ht
    have hi : i < l.length := by omega
    refine Ev.step (f := fun k => laws_toByteS.l0 k l (x.set i l[i]) ((i + 1 : Nat) : Int)) (fun k => ?_) ?_
    · simp only [laws_toByteS.l0]
      rw [if_pos (by omega), if_pos (by omega), if_pos (by omega), rd_nat l i hi, w64 (by omega) (by omega)]
      simp only [Int.toNat_natCast]; rfl
    · refine ih (i + 1) _ (by omega) (by rw [List.length_set]; exact hx) ?_
      rw [List.take_succ_eq_append_getElem (by rw [List.length_set]; omega), List.take_succ_eq_append_getElem hi, List.getElem_set_self, List.take_set_of_le (by omega), ht]
theorem toByteS_ev (l : List Int) (hl : l.length ≤ 281474976710656) : Ev (fun k => laws_toByteS.f k l) l := by
  unfold laws_toByteS.f
  simp only [if_pos (show (0 : Int) ≤ (l.length : Int) by omega), if_pos (show ((l.length : Int) : Int).toNat ≤ 281474976710656 by omega)]
  exact toByteS_l0 l hl l.length 0 _ (by omega) (by simp) (by simp)
theorem eqByteS_l0 (l : List Int) (hl : l.length ≤ 4611686018427387904) (d : Nat) : ∀ i : Nat, i + d = l.length → Ev (fun k => laws_eqByteS.l0 k l l (i : Int)) true := by
  induction d with
  | zero =>
    intro i h
    exact Ev.ret fun k => by simp only [laws_eqByteS.l0]; rw [if_neg (by omega)]
  | succ d ih =>
    intro i h
    refine Ev.step (f := fun k => laws_eqByteS.l0 k l l ((i + 1 : Nat) : Int)) (fun k => ?_) (ih (i + 1) (by omega))
    simp only [laws_eqByteS.l0]
    rw [if_pos (by omega), if_pos (by omega), if_pos (by omega), if_pos (by trivial), w64 (by omega) (by omega)]; rfl
theorem eqByteS_self (l : List Int) (hl : l.length ≤ 4611686018427387904) : Ev (fun k => laws_eqByteS.f k l l) true := by
  unfold laws_eqByteS.f
  simp only [if_true]
  exact eqByteS_l0 l hl l.length 0 (by omega)
theorem eqBytesResult_self (c : Int) (l : List Int) (hl : l.length ≤ 4611686018427387904) : Ev (fun k => laws_eqBytesResult.f k c l c l) true := by
  unfold laws_eqBytesResult.f
  simp only [if_true]
  refine Ev.bind (eqByteS_self l hl) ?_
  simp only [if_true]
  exact Ev.now _
theorem markByteS_l0 (n : Nat) (hn : n ≤ 281474976710656) (a : Int) (ha : 0 ≤ a) (ha1 : a ≤ 4611686018427387904) (d : Nat) : ∀ (i : Nat) (x : List Int), i + d = n → x.length = n → x.take i = mks a i → Ev (fun k => laws_markByteS.l0 k x (a + i) (i : Int)) (a + n, mks a n) := by
  induction d with
  | zero =>
    intro i x h hx ht
    have e : x = mks a n := by
      rw [show i = n by omega, List.take_of_length_le (by omega)] at ht
      exact ht
    obtain rfl : i = n := by omega
    subst e
    exact Ev.ret fun k => by simp only [laws_markByteS.l0]; rw [if_neg (by rw [mks_length]; omega)]
  | succ d ih =>
    intro i x h hx ht
    have hi : i < x.length := by omega
    refine Ev.step (f := fun k => laws_markByteS.l0 k (x.set i ((a + i) % 256)) (a + ((i + 1 : Nat) : Int)) ((i + 1 : Nat) : Int)) (fun k => ?_) (ih (i + 1) _ (by omega) (by rw [List.length_set]; exact hx) ?_)
    · simp only [laws_markByteS.l0]
      rw [if_pos (by omega), if_pos (by omega), w64 (x := (i : Int) + 1) (by omega) (by omega), w64 (x := a + i + 1) (by omega) (by omega)]
      simp only [Int.toNat_natCast]
      have : a + (i : Int) + 1 = a + ((i + 1 : Nat) : Int) := by omega
      rw [this]; rfl
    · rw [List.take_succ_eq_append_getElem (by rw [List.length_set]; omega), List.getElem_set_self, List.take_set_of_le (by omega), ht, mks_snoc]
theorem markByteS_ev (l : List Int) (hl : l.length ≤ 281474976710656) (a : Int) (ha : 0 ≤ a) (ha1 : a ≤ 4611686018427387904) : Ev (fun k => laws_markByteS.f k l a) (a + l.length, mks a l.length) := by
  have h := markByteS_l0 l.length hl a ha ha1 l.length 0 l (by omega) rfl rfl
  unfold laws_markByteS.f
  simpa only [Int.natCast_zero, Int.add_zero] using h
theorem heldByteS_l0 (n : Nat) (hn : n ≤ 281474976710656) (a : Int) (ha : 0 ≤ a) (ha1 : a ≤ 4611686018427387904) (d : Nat) : ∀ (i : Nat), i + d = n → Ev (fun k => laws_heldByteS.l0 k (mks a n) (a + i) (i : Int)) (a + n) := by
  induction d with
  | zero =>
    intro i h
    obtain rfl : i = n := by omega
    exact Ev.ret fun k => by simp only [laws_heldByteS.l0]; rw [if_neg (by rw [mks_length]; omega)]
  | succ d ih =>
    intro i h
    refine Ev.step (f := fun k => laws_heldByteS.l0 k (mks a n) (a + ((i + 1 : Nat) : Int)) ((i + 1 : Nat) : Int)) (fun k => ?_) (ih (i + 1) (by omega))
    simp only [laws_heldByteS.l0]
    rw [if_pos (by rw [mks_length]; omega), if_pos (by omega), rd_nat _ i (by rw [mks_length]; omega), mks_get a n i (by omega), if_pos rfl, w64 (x := (i : Int) + 1) (by omega) (by omega), w64 (x := a + i + 1) (by omega) (by omega)]
    have : a + (i : Int) + 1 = a + ((i + 1 : Nat) : Int) := by omega
    rw [this]; rfl
theorem heldByteS_ev (n : Nat) (hn : n ≤ 281474976710656) (a : Int) (ha : 0 ≤ a) (ha1 : a ≤ 4611686018427387904) : Ev (fun k => laws_heldByteS.f k (mks a n) a) (a + n) := by
  have h := heldByteS_l0 n hn a ha ha1 n 0 (by omega)
  unfold laws_heldByteS.f
  simpa only [Int.natCast_zero, Int.add_zero] using h
theorem markBytesResult_ev (c : Int) (l : List Int) (hl : l.length ≤ 281474976710656) : Ev (fun k => laws_markBytesResult.f k c l 1) (1 + l.length, mks 1 l.length) := by
  unfold laws_markBytesResult.f
  exact Ev.bind (markByteS_ev l hl 1 (by omega) (by omega)) (Ev.now _)
theorem heldBytesResult_ev (c : Int) (n : Nat) (hn : n ≤ 281474976710656) : Ev (fun k => laws_heldBytesResult.f k c (mks 1 n) 1) (1 + n) := by
  unfold laws_heldBytesResult.f
  refine Ev.bind (heldByteS_ev n hn 1 (by omega) (by omega)) ?_
  rw [if_neg (by omega)]
  exact Ev.now _
theorem specChunkFault_ev (a b : Int) (l : List Int) : Ev (fun k => spec_ChunkFault.f k a b l) (chunkF a b l) := by
  have hj : ∀ q : Bool, Ev (fun k => spec_ChunkFault.j0 k (!q) a b l) (if q = true then (if l.length > 160 then 2 else 0) else 3) := by
    intro q
    refine Ev.ret fun k => ?_
    simp only [spec_ChunkFault.j0]
    cases q
    · rfl
    · simp only [Bool.not_true, Bool.false_eq_true, if_false, if_true]
      by_cases h : l.length > 160
      · rw [if_pos (by omega), if_pos h]
      · rw [if_neg (by omega), if_neg h]
  unfold spec_ChunkFault.f chunkF
  simp only [l1In_eq, Option.bind_some]
  cases inB a 0 255
  · simp only [Bool.false_and, Bool.false_eq_true, if_false]; exact hj false
  · simp only [Bool.true_and, if_true]; exact hj _
theorem implChunkFault_ev (a b : Int) (l : List Int) : Ev (fun k => impl_ChunkFault.f k a b l) (chunkF a b l) := by
  have hj : ∀ q : Bool, Ev (fun k => impl_ChunkFault.j0 k (!q) a b l) (if q = true then (if l.length > 160 then 2 else 0) else 3) := by
    intro q
    refine Ev.ret fun k => ?_
    simp only [impl_ChunkFault.j0]
    cases q
    · rfl
    · simp only [Bool.not_true, Bool.false_eq_true, if_false, if_true]
      by_cases h : l.length > 160
      · rw [if_pos (by omega), if_pos h]
      · rw [if_neg (by omega), if_neg h]
  unfold impl_ChunkFault.f chunkF
  simp only [within_eq, Option.bind_some]
  cases inB a 0 255
  · simp only [Bool.false_and, Bool.false_eq_true, if_false]; exact hj false
  · simp only [Bool.true_and, if_true]; exact hj _
theorem packChunk_l0 (d : Nat) : ∀ x : List Int, padN x.length = d → x.length ≤ 1000000 → Ev (fun k => impl_packChunk.l0 k x) (x ++ List.replicate d 0) := by
  induction d with
  | zero =>
    intro x h hl
    refine Ev.ret fun k => ?_
    simp only [impl_packChunk.l0]
    rw [if_pos (by unfold padN at h; omega)]; simp
  | succ d ih =>
    intro x h hl
    have e : x ++ List.replicate (d + 1) 0 = x ++ [0] ++ List.replicate d 0 := by rw [List.append_assoc, List.replicate_succ, List.singleton_append]
    rw [e]
    have hx : (x ++ [0] : List Int).length = x.length + 1 := by simp
    have hp : padN x.length ≤ 3 := by unfold padN; omega
    refine Ev.step (fun k => ?_) (ih (x ++ [0]) (by rw [hx]; unfold padN at h ⊢; omega) ?_)
    · simp only [impl_packChunk.l0]
      rw [if_neg (by unfold padN at h; omega), if_pos (by omega)]
    · rw [hx]
      by_cases hz : x.length = 1000000
      · rw [hz] at h; unfold padN at h; omega
      · omega
theorem packChunk_ev (a b : Int) (l : List Int) (hl : l.length ≤ 100000) : Ev (fun k => impl_packChunk.f k a b l) (packC a b l) := by
  unfold impl_packChunk.f
  have hw : wrap64 ((l.length : Int) + 4) = (l.length : Int) + 4 := w64 (by omega) (by omega)
  simp only [Option.bind_some, hw]
  refine Ev.pos (by simp; omega) ?_
  have := packChunk_l0 (padN l.length) ([a % 256, b % 256, ((l.length : Int) + 4) / 256 % 256, ((l.length : Int) + 4) % 256] ++ l) (by simp; unfold padN; omega) (by simp; omega)
  exact this
theorem implPackChunk_ev (a b : Int) (l : List Int) : Ev (fun k => impl_PackChunk.f k a b l) (packR a b l) := by
  unfold impl_PackChunk.f packR
  refine Ev.bind (implChunkFault_ev a b l) ?_
  by_cases h : chunkF a b l = 0
  · rw [if_pos h]
    exact Ev.pos h (Ev.bind (packChunk_ev a b l (by have := (chunkF_zero h).2.2; omega)) (Ev.now _))
  · rw [if_neg h]
    exact Ev.neg h (Ev.now _)
theorem blk_len {p : List Int} {m n : Nat} (hp : p.length = 64 * m) (hn : n < m) : ((p.take (64 * n + 64)).drop (64 * n)).length = 64 := by
  rw [List.length_drop, List.length_take]; omega
theorem blk_ifs {n m : Nat} (hm : m ≤ 1000) (hn : n < m) : ((64 * n : Nat) : Int) < ((64 * m : Nat) : Int) ∧ 0 ≤ ((64 * n : Nat) : Int) ∧ ((64 * n : Nat) : Int) ≤ ((64 * n + 64 : Nat) : Int) ∧ ((64 * n + 64 : Nat) : Int) ≤ ((64 * m : Nat) : Int) ∧ wrap64 (((64 * n : Nat) : Int) + 64) = ((64 * n + 64 : Nat) : Int) := by
  refine ⟨by omega, by omega, by omega, by omega, ?_⟩
  rw [w64 (by omega) (by omega)]; omega
theorem padded_64 (l : List Int) : (padded l).length = 64 * ((padded l).length / 64) := by
  rw [padded_length]; unfold zerosFor; omega
theorem padded_few {l : List Int} (h : l.length ≤ 700) : (padded l).length / 64 ≤ 1000 := by
  rw [padded_length]; unfold zerosFor; omega
theorem szByteS_big {l : List Int} (hl : l.length ≤ 9223372036854775807) {a : Int} (h0 : 0 ≤ a) (h1 : a ≤ 1048576) (h : a < (l.length : Int)) : laws_szByteS.f l a = some (-1) := by
  unfold laws_szByteS.f
  rw [w64 (by omega) (by omega), if_pos (by omega)]
theorem szByteS_ok {l : List Int} {a : Int} (h1 : a ≤ 1048576) (h : (l.length : Int) ≤ a) : laws_szByteS.f l a = some (a - (l.length : Int)) := by
  unfold laws_szByteS.f
  rw [w64 (by omega) (by omega), if_neg (by omega)]
theorem szChunk_big {a b : Int} {l : List Int} (hl : l.length ≤ 9223372036854775807) {n : Int} (h0 : 0 ≤ n) (h1 : n ≤ 1048576) (h : n < (l.length : Int)) : laws_szChunk.f a b l n = some (-1) := by
  unfold laws_szChunk.f
  rw [szByteS_big hl h0 h1 h]; rfl
theorem szChunk_ok {a b : Int} {l : List Int} {n : Int} (h1 : n ≤ 1048576) (h : (l.length : Int) ≤ n) : laws_szChunk.f a b l n = some (n - (l.length : Int)) := by
  unfold laws_szChunk.f
  rw [szByteS_ok h1 h]; simp only [Option.bind_some]
  rw [if_neg (by omega)]
theorem toChunk_ev (a b : Int) (l : List Int) (hl : l.length ≤ 281474976710656) : Ev (fun k => laws_toChunk.f k a b l) (a, b, l) := by
  unfold laws_toChunk.f
  exact Ev.bind (toByteS_ev l hl) (Ev.now _)
theorem eqChunk_self (a b : Int) (l : List Int) (hl : l.length ≤ 4611686018427387904) : Ev (fun k => laws_eqChunk.f k a b l a b l) true := by
  unfold laws_eqChunk.f
  exact Ev.pos rfl (Ev.pos rfl (Ev.bind (eqByteS_self l hl) (Ev.pos rfl (Ev.now _))))
theorem l1Pair_eq {n : Int} (h0 : 0 ≤ n) (h1 : n ≤ 4294967295) : spec_l1Pair.f n = some [n / 256 % 256, n % 256] := by
  unfold spec_l1Pair.f
  rw [Int.tdiv_eq_ediv_of_nonneg h0, w64 (by omega) (by omega), Int.tmod_eq_emod_of_nonneg h0, Int.emod_emod]
theorem l4Chunk_l0 (d : Nat) : ∀ x : List Int, padN x.length = d → x.length ≤ 1000000 → Ev (fun k => spec_l4Chunk.l0 k x) (x ++ List.replicate d 0) := by
  induction d with
  | zero =>
    intro x h hl
    refine Ev.ret fun k => ?_
    simp only [spec_l4Chunk.l0]
    rw [if_pos (by unfold padN at h; omega)]; simp
  | succ d ih =>
    intro x h hl
    have e : x ++ List.replicate (d + 1) 0 = x ++ [0] ++ List.replicate d 0 := by rw [List.append_assoc, List.replicate_succ, List.singleton_append]
    rw [e]
    have hx : (x ++ [0] : List Int).length = x.length + 1 := by simp
    have hp : padN x.length ≤ 3 := by unfold padN; omega
    refine Ev.step (fun k => ?_) (ih (x ++ [0]) (by rw [hx]; unfold padN at h ⊢; omega) ?_)
    · simp only [spec_l4Chunk.l0]
      rw [if_neg (by unfold padN at h; omega), if_pos (by omega)]
    · rw [hx]
      by_cases hz : x.length = 1000000
      · rw [hz] at h; unfold padN at h; omega
      · omega
theorem l4Chunk_ev (a b : Int) (l : List Int) (hl : l.length ≤ 100000) : Ev (fun k => spec_l4Chunk.f k a b l) (packC a b l) := by
  unfold spec_l4Chunk.f
  have hw : wrap64 ((l.length : Int) + 4) = (l.length : Int) + 4 := w64 (by omega) (by omega)
  simp only [Option.bind_some, hw, l1Pair_eq (n := (l.length : Int) + 4) (by omega) (by omega)]
  refine Ev.pos (by simp) (Ev.pos (by simp; omega) ?_)
  have := l4Chunk_l0 (padN l.length) ([a % 256, b % 256, ((l.length : Int) + 4) / 256 % 256, ((l.length : Int) + 4) % 256] ++ l) (by simp; unfold padN; omega) (by simp; omega)
  exact this
theorem specPackChunk_ev (a b : Int) (l : List Int) : Ev (fun k => spec_PackChunk.f k a b l) (packR a b l) := by
  unfold spec_PackChunk.f packR
  refine Ev.bind (specChunkFault_ev a b l) ?_
  by_cases h : chunkF a b l = 0
  · rw [if_pos h]
    exact Ev.pos h (Ev.bind (l4Chunk_ev a b l (by have := (chunkF_zero h).2.2; omega)) (Ev.now _))
  · rw [if_neg h]
    exact Ev.neg h (Ev.now _)
theorem markChunk_ev (a b : Int) (l : List Int) (hl : l.length ≤ 281474976710656) : Ev (fun k => laws_markChunk.f k a b l 1) (1 + l.length, mks 1 l.length) := by
  unfold laws_markChunk.f
  exact Ev.bind (markByteS_ev l hl 1 (by omega) (by omega)) (Ev.now _)
theorem FnExactPackChunk : laws_FnExactPackChunk.Pure := by
  intro a b l _ _ hl
  have hr := packR_len a b l
  apply Ev.rounds
  unfold laws_FnExactPackChunk.f
  by_cases hbig : (1048576 : Int) < (l.length : Int)
  · exact Ev.bind (Ev.all fun _ => szChunk_big hl.1 (by omega) (by omega) hbig) (Ev.pos (by omega) (Ev.now _))
  have g : l.length ≤ 1048576 := by omega
  refine Ev.bind (Ev.all fun _ => szChunk_ok (by omega) (by omega)) (Ev.neg (by omega) (Ev.bind (toChunk_ev a b l (by omega)) (Ev.bind (specPackChunk_ev a b l) (Ev.bind (toChunk_ev a b l (by omega)) (Ev.bind (implPackChunk_ev a b l) (Ev.bind (eqBytesResult_self _ _ (by omega)) (Ev.pos rfl ?_)))))))
  refine Ev.bind (toChunk_ev a b l (by omega)) (Ev.bind (eqChunk_self a b l (by omega)) (Ev.pos rfl ?_))
  refine Ev.bind (markChunk_ev a b l (by omega)) (Ev.neg (by omega) (Ev.bind (eqBytesResult_self _ _ (by omega)) ?_))
  refine Ev.step (fun k => by simp only [laws_FnExactPackChunk.j0]; rfl) (Ev.neg (by decide) ?_)
  refine Ev.bind (markBytesResult_ev _ _ (by omega)) (Ev.bind (heldBytesResult_ev _ _ (by omega)) (Ev.neg (by omega) (Ev.pos rfl ?_)))
  refine Ev.bind (toChunk_ev a b l (by omega)) (Ev.bind (implPackChunk_ev a b l) (Ev.bind (eqBytesResult_self _ _ (by omega)) (Ev.pos rfl ?_)))
  exact Ev.bind (heldBytesResult_ev _ _ (by omega)) (Ev.neg (by omega) (Ev.pos rfl (Ev.now _)))
end FnExactPackChunk_
theorem FnExactPackChunk : laws_FnExactPackChunk.Pure := FnExactPackChunk_.FnExactPackChunk
end Go.Proofs.Ytglphklcfpgjbaa.Pure
