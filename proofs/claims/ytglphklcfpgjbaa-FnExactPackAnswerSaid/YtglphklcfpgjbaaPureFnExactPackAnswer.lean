/- The pure statement of FnExactPackAnswer: what the printed functions of the program and of the reference compute makes the law answer true, for all arguments (each number of its kind). -/
import Derived.Test.YtglphklcfpgjbaaPFnExactPackAnswerx5
import Derived.Test.YtglphklcfpgjbaaBase
set_option linter.unusedVariables false
set_option linter.unusedSimpArgs false
namespace Go.Proofs.Ytglphklcfpgjbaa.Pure
open Go.RowKit Go.Proofs.Ytglphklcfpgjbaa.PFnExactPackAnswer Go.Proofs.YtglphklcfpgjbaaW.PrintWords Go.Proofs.YtglphklcfpgjbaaW.PrintLast Go.Proofs.YtglphklcfpgjbaaW.PrintMore Go.Proofs.Ytglphklcfpgjbaa.Base
namespace FnExactPackAnswer_
theorem l1In_eq (a b c : Int) : spec_l1In.f a b c = some (inB a b c) := ge_le
theorem within_eq (a b c : Int) : impl_within.f a b c = some (inB a b c) := ge_le
theorem l1Word32_eq (a : Int) : spec_l1Word32.f a = some (isWd a) := by
  unfold spec_l1Word32.f; rw [l1In_eq]; rfl
theorem isWord_eq (a : Int) : impl_isWord.f a = some (isWd a) := by
  unfold impl_isWord.f; rw [within_eq]; rfl
theorem eqByteS_l0 (l : List Int) (hl : l.length ≤ 4611686018427387904) (d : Nat) : ∀ i : Nat, i + d = l.length → Ev (fun k => laws_eqByteS.l0 k l l (i : Int)) true := by
  induction d with
  | zero =>
    intro i h
    exact Ev.ret fun k => by simp only [laws_eqByteS.l0]; rw [if_neg (by omega)]
  | succ d ih =>
    intro i h
    refine Ev.step (f := fun k => laws_eqByteS.l0 k l l ((i + 1 : Nat) : Int)) (fun k => ?_) (ih (i + 1) (by omega))
    simp only [laws_eqByteS.l0]
    rw [if_pos (by omega), if_pos (by omega), if_pos (by omega), if_pos (by trivial), w64 (by omega) (by omega)]; rfl
theorem eqByteS_self (l : List Int) (hl : l.length ≤ 4611686018427387904) : Ev (fun k => laws_eqByteS.f k l l) true := by
  unfold laws_eqByteS.f
  simp only [if_true]
  exact eqByteS_l0 l hl l.length 0 (by omega)
theorem l1Pack_eq {w : Int} (hw : Wd w) : spec_l1Pack.f w = some (pack4 w) := by
  obtain ⟨_, _⟩ := hw
  unfold spec_l1Pack.f pack4
  rw [Int.tdiv_eq_ediv_of_nonneg (by omega), Int.tdiv_eq_ediv_of_nonneg (by omega), Int.tdiv_eq_ediv_of_nonneg (by omega), w64 (x := w / 16777216) (by omega) (by omega), w64 (x := w / 65536) (by omega) (by omega), w64 (x := w / 256) (by omega) (by omega), Int.tmod_eq_emod_of_nonneg (by omega), Int.tmod_eq_emod_of_nonneg (by omega), Int.tmod_eq_emod_of_nonneg (by omega)]
  simp only [Int.emod_emod]
theorem four_eq (w : Int) : impl_four.f w = some (pack4 w) := rfl
theorem markByteS_l0 (n : Nat) (hn : n ≤ 281474976710656) (a : Int) (ha : 0 ≤ a) (ha1 : a ≤ 4611686018427387904) (d : Nat) : ∀ (i : Nat) (x : List Int), i + d = n → x.length = n → x.take i = mks a i → Ev (fun k => laws_markByteS.l0 k x (a + i) (i : Int)) (a + n, mks a n) := by
  induction d with
  | zero =>
    intro i x h hx ht
    have e : x = mks a n := by
      rw [show i = n by omega, List.take_of_length_le (by omega)] at ht
      exact ht
    obtain rfl : i = n := by omega
    subst e
    exact Ev.ret fun k => by simp only [laws_markByteS.l0]; rw [if_neg (by rw [mks_length]; omega)]
  | succ d ih =>
    intro i x h hx ht
    have hi : i < x.length := by omega
    refine Ev.step (f := fun k => laws_markByteS.l0 k (x.set i ((a + i) % 256)) (a + ((i + 1 : Nat) : Int)) ((i + 1 : Nat) : Int)) (fun k => ?_) (ih (i + 1) _ (by omega) (by rw [List.length_set]; exact hx) ?_)
    · simp only [laws_markByteS.l0]
      rw [if_pos (by omega), if_pos (by omega), w64 (x := (i : Int) + 1) (by omega) (by omega), w64 (x := a + i + 1) (by omega) (by omega)]
      simp only [Int.toNat_natCast]
      have : a + (i : Int) + 1 = a + ((i + 1 : Nat) : Int) := by omega
      rw [this]; rfl
    · rw [List.take_succ_eq_append_getElem (by rw [List.length_set]; omega), List.getElem_set_self, List.take_set_of_le (by omega), ht, mks_snoc]
theorem markByteS_ev (l : List Int) (hl : l.length ≤ 281474976710656) (a : Int) (ha : 0 ≤ a) (ha1 : a ≤ 4611686018427387904) : Ev (fun k => laws_markByteS.f k l a) (a + l.length, mks a l.length) := by
  have h := markByteS_l0 l.length hl a ha ha1 l.length 0 l (by omega) rfl rfl
  unfold laws_markByteS.f
  simpa only [Int.natCast_zero, Int.add_zero] using h
theorem heldByteS_l0 (n : Nat) (hn : n ≤ 281474976710656) (a : Int) (ha : 0 ≤ a) (ha1 : a ≤ 4611686018427387904) (d : Nat) : ∀ (i : Nat), i + d = n → Ev (fun k => laws_heldByteS.l0 k (mks a n) (a + i) (i : Int)) (a + n) := by
  induction d with
  | zero =>
    intro i h
    obtain rfl : i = n := by omega
    exact Ev.ret fun k => by simp only [laws_heldByteS.l0]; rw [if_neg (by rw [mks_length]; omega)]
  | succ d ih =>
    intro i h
    refine Ev.step (f := fun k => laws_heldByteS.l0 k (mks a n) (a + ((i + 1 : Nat) : Int)) ((i + 1 : Nat) : Int)) (fun k => ?_) (ih (i + 1) (by omega))
    simp only [laws_heldByteS.l0]
    rw [if_pos (by rw [mks_length]; omega), if_pos (by omega), rd_nat _ i (by rw [mks_length]; omega), mks_get a n i (by omega), if_pos rfl, w64 (x := (i : Int) + 1) (by omega) (by omega), w64 (x := a + i + 1) (by omega) (by omega)]
    have : a + (i : Int) + 1 = a + ((i + 1 : Nat) : Int) := by omega
    rw [this]; rfl
theorem heldByteS_ev (n : Nat) (hn : n ≤ 281474976710656) (a : Int) (ha : 0 ≤ a) (ha1 : a ≤ 4611686018427387904) : Ev (fun k => laws_heldByteS.f k (mks a n) a) (a + n) := by
  have h := heldByteS_l0 n hn a ha ha1 n 0 (by omega)
  unfold laws_heldByteS.f
  simpa only [Int.natCast_zero, Int.add_zero] using h
theorem eqInt64S_l0 (l : List Int) (hl : l.length ≤ 4611686018427387904) (d : Nat) : ∀ i : Nat, i + d = l.length → Ev (fun k => laws_eqInt64S.l0 k l l (i : Int)) true := by
  induction d with
  | zero =>
    intro i h
    exact Ev.ret fun k => by simp only [laws_eqInt64S.l0]; rw [if_neg (by omega)]
  | succ d ih =>
    intro i h
    refine Ev.step (f := fun k => laws_eqInt64S.l0 k l l ((i + 1 : Nat) : Int)) (fun k => ?_) (ih (i + 1) (by omega))
    simp only [laws_eqInt64S.l0]
    rw [if_pos (by omega), if_pos (by omega), if_pos (by omega), if_pos (by trivial), w64 (by omega) (by omega)]; rfl
theorem eqInt64S_self (l : List Int) (hl : l.length ≤ 4611686018427387904) : Ev (fun k => laws_eqInt64S.f k l l) true := by
  unfold laws_eqInt64S.f
  simp only [if_true]
  exact eqInt64S_l0 l hl l.length 0 (by omega)
theorem markInt64S_l0 (n : Nat) (hn : n ≤ 281474976710656) (a : Int) (ha : 0 ≤ a) (ha1 : a ≤ 4611686018427387904) (d : Nat) : ∀ (i : Nat) (x : List Int), i + d = n → x.length = n → x.take i = mkI a i → Ev (fun k => laws_markInt64S.l0 k x (a + i) (i : Int)) (a + n, mkI a n) := by
  induction d with
  | zero =>
    intro i x h hx ht
    have e : x = mkI a n := by
      rw [show i = n by omega, List.take_of_length_le (by omega)] at ht
      exact ht
    obtain rfl : i = n := by omega
    subst e
    exact Ev.ret fun k => by simp only [laws_markInt64S.l0]; rw [if_neg (by rw [mkI_length]; omega)]
  | succ d ih =>
    intro i x h hx ht
    have hi : i < x.length := by omega
    refine Ev.step (f := fun k => laws_markInt64S.l0 k (x.set i (a + i)) (a + ((i + 1 : Nat) : Int)) ((i + 1 : Nat) : Int)) (fun k => ?_) (ih (i + 1) _ (by omega) (by rw [List.length_set]; exact hx) ?_)
    · simp only [laws_markInt64S.l0]
      rw [if_pos (by omega), if_pos (by omega), w64 (x := (i : Int) + 1) (by omega) (by omega), w64 (x := a + i + 1) (by omega) (by omega)]
      simp only [Int.toNat_natCast]
      have : a + (i : Int) + 1 = a + ((i + 1 : Nat) : Int) := by omega
      rw [this]; rfl
    · rw [List.take_succ_eq_append_getElem (by rw [List.length_set]; omega), List.getElem_set_self, List.take_set_of_le (by omega), ht, mkI_snoc]
theorem markInt64S_ev (l : List Int) (hl : l.length ≤ 281474976710656) (a : Int) (ha : 0 ≤ a) (ha1 : a ≤ 4611686018427387904) : Ev (fun k => laws_markInt64S.f k l a) (a + l.length, mkI a l.length) := by
  have h := markInt64S_l0 l.length hl a ha ha1 l.length 0 l (by omega) rfl rfl
  unfold laws_markInt64S.f
  simpa only [Int.natCast_zero, Int.add_zero] using h
theorem toInt64S_l0 (l : List Int) (hl : l.length ≤ 35184372088832) (d : Nat) : ∀ (i : Nat) (x : List Int), i + d = l.length → x.length = l.length → x.take i = l.take i → Ev (fun k => laws_toInt64S.l0 k l x (i : Int)) l := by
  induction d with
  | zero =>
    intro i x h hx ht
    obtain rfl : i = l.length := by omega
    have e : x = l := by rwa [List.take_of_length_le (by omega), List.take_of_length_le (by omega)] at ht
    subst e
    exact Ev.ret fun k => by simp only [laws_toInt64S.l0]; rw [if_neg (by omega)]
  | succ d ih =>
    intro i x h hx ht
    refine Ev.step (fun k => ?_) (ih (i + 1) (x.set i (rd l (i : Int))) (by omega) (by rw [List.length_set]; exact hx) ?_)
    · simp only [laws_toInt64S.l0]
      rw [if_pos (by omega), if_pos (by omega), if_pos (by omega), w64 (x := (i : Int) + 1) (by omega) (by omega)]
      simp only [Int.toNat_natCast]; rfl
    · rw [List.take_succ_eq_append_getElem (by rw [List.length_set]; omega), List.getElem_set_self, List.take_set_of_le (by omega), ht, rd_nat l i (by omega), ← List.take_succ_eq_append_getElem (by omega)]
theorem toInt64S_ev (l : List Int) (hl : l.length ≤ 35184372088832) : Ev (fun k => laws_toInt64S.f k l) l := by
  unfold laws_toInt64S.f
  refine Ev.pos (by omega) (Ev.pos (by omega) ?_)
  exact toInt64S_l0 l hl l.length 0 _ (by omega) (by simp) (by simp)
theorem blk_len {p : List Int} {m n : Nat} (hp : p.length = 64 * m) (hn : n < m) : ((p.take (64 * n + 64)).drop (64 * n)).length = 64 := by
  rw [List.length_drop, List.length_take]; omega
theorem blk_ifs {n m : Nat} (hm : m ≤ 1000) (hn : n < m) : ((64 * n : Nat) : Int) < ((64 * m : Nat) : Int) ∧ 0 ≤ ((64 * n : Nat) : Int) ∧ ((64 * n : Nat) : Int) ≤ ((64 * n + 64 : Nat) : Int) ∧ ((64 * n + 64 : Nat) : Int) ≤ ((64 * m : Nat) : Int) ∧ wrap64 (((64 * n : Nat) : Int) + 64) = ((64 * n + 64 : Nat) : Int) := by
  refine ⟨by omega, by omega, by omega, by omega, ?_⟩
  rw [w64 (by omega) (by omega)]; omega
theorem padded_64 (l : List Int) : (padded l).length = 64 * ((padded l).length / 64) := by
  rw [padded_length]; unfold zerosFor; omega
theorem padded_few {l : List Int} (h : l.length ≤ 700) : (padded l).length / 64 ≤ 1000 := by
  rw [padded_length]; unfold zerosFor; omega
theorem eqChunk_self (a b : Int) (l : List Int) (hl : l.length ≤ 4611686018427387904) : Ev (fun k => laws_eqChunk.f k a b l a b l) true := by
  unfold laws_eqChunk.f
  exact Ev.pos rfl (Ev.pos rfl (Ev.bind (eqByteS_self l hl) (Ev.pos rfl (Ev.now _))))
theorem markChunk_ev (a b : Int) (l : List Int) (hl : l.length ≤ 281474976710656) : Ev (fun k => laws_markChunk.f k a b l 1) (1 + l.length, mks 1 l.length) := by
  unfold laws_markChunk.f
  exact Ev.bind (markByteS_ev l hl 1 (by omega) (by omega)) (Ev.now _)
theorem Grow_eq {n : Int} (h0 : 0 ≤ n) (h1 : n ≤ 1000000) : slices_Grow_byte_byte.f [] n = some [] := by
  unfold slices_Grow_byte_byte.f
  rw [if_pos h0, if_pos (by omega)]
def sumLen (xs : List (List Int)) : Nat := xs.flatten.length
theorem rdL1 (xs : List (List Int)) (i : Nat) (h : i < xs.length) : rd_L2 xs (i : Int) = xs[i] := by
  unfold rd_L2; rw [Int.toNat_natCast, List.getD_eq_getElem?_getD, List.getElem?_eq_getElem h]; rfl
theorem Concat_l1 (x0 xs : List (List Int)) (hn : xs.length ≤ 1000) (hs : xs.flatten.length ≤ 1000000) (d : Nat) : ∀ (i : Nat) (acc : List Int), i + d = xs.length → acc.length + ((xs.drop i).flatten).length ≤ 1000000 → Ev (fun k => slices_Concat_byte_byte.l1 k acc xs (xs.length : Int) (i : Int)) (acc ++ (xs.drop i).flatten) := by
  induction d with
  | zero =>
    intro i acc h ha
    refine Ev.ret fun k => ?_
    simp only [slices_Concat_byte_byte.l1]
    rw [if_neg (by omega), List.drop_of_length_le (by omega)]
    simp
  | succ d ih =>
    intro i acc h ha
    have hi : i < xs.length := by omega
    have hr : rd_L2 xs (i : Int) = xs[i] := rdL1 xs i hi
    have hw : wrap64 ((i : Int) + 1) = ((i + 1 : Nat) : Int) := w64_succ (by omega)
    have e : (xs.drop i).flatten = xs[i] ++ (xs.drop (i + 1)).flatten := by rw [drop_cons xs i hi, List.flatten_cons]
    have hl : (xs.drop i).flatten.length = xs[i].length + (xs.drop (i + 1)).flatten.length := by rw [e, List.length_append]
    rw [e, ← List.append_assoc]
    refine Ev.step (fun k => by simp only [slices_Concat_byte_byte.l1, hr, hw]; rfl) ?_
    exact Ev.pos (by omega) (Ev.pos (by omega) (Ev.pos (by omega) (Ev.pos (by omega) (ih (i + 1) (acc ++ xs[i]) (by omega) (by rw [List.length_append]; omega)))))
theorem Concat_l0 (xs : List (List Int)) (hn : xs.length ≤ 1000) (hs : xs.flatten.length ≤ 1000000) (d : Nat) : ∀ (i s : Nat), i + d = xs.length → s + ((xs.drop i).flatten).length ≤ 1000000 → Ev (fun k => slices_Concat_byte_byte.l0 k xs (s : Int) xs (xs.length : Int) (i : Int)) xs.flatten := by
  induction d with
  | zero =>
    intro i s h ha
    have h1 := Concat_l1 xs xs hn hs xs.length 0 [] (by omega) (by simpa using hs)
    simp only [List.drop_zero, List.nil_append] at h1
    refine Ev.step (fun k => by simp only [slices_Concat_byte_byte.l0, Grow_eq (n := (s : Int)) (by omega) (by omega), Option.bind_some]; rfl) (Ev.neg (by omega) h1)
  | succ d ih =>
    intro i s h ha
    have hi : i < xs.length := by omega
    have hr : rd_L2 xs (i : Int) = xs[i] := rdL1 xs i hi
    have hw : wrap64 ((i : Int) + 1) = ((i + 1 : Nat) : Int) := w64_succ (by omega)
    have hl : (xs.drop i).flatten.length = xs[i].length + (xs.drop (i + 1)).flatten.length := by rw [drop_cons xs i hi, List.flatten_cons, List.length_append]
    have hv : wrap64 ((s : Int) + (xs[i].length : Int)) = ((s + xs[i].length : Nat) : Int) := by rw [w64 (by omega) (by omega)]; omega
    refine Ev.step (fun k => by simp only [slices_Concat_byte_byte.l0, hr, hw, hv]; rfl) ?_
    exact Ev.pos (by omega) (Ev.pos (by omega) (Ev.pos (by omega) (Ev.neg (by omega) (ih (i + 1) (s + xs[i].length) (by omega) (by omega)))))
theorem Concat_ev (xs : List (List Int)) (hn : xs.length ≤ 1000) (hs : xs.flatten.length ≤ 1000000) : Ev (fun k => slices_Concat_byte_byte.f k xs) xs.flatten := by
  have h := Concat_l0 xs hn hs xs.length 0 0 (by omega) (by simpa using hs)
  unfold slices_Concat_byte_byte.f
  exact h
theorem chunk_ev (a b : Int) (xs : List (List Int)) (hn : xs.length ≤ 1000) (hs : xs.flatten.length ≤ 1000000) : Ev (fun k => impl_chunk.f k a b xs) (0, a, b, xs.flatten) := by
  unfold impl_chunk.f
  exact Ev.bind (Concat_ev xs hn hs) (Ev.now _)
theorem l5Bad_eq (c : Int) : spec_l5Bad.f c = some (c, 0, 0, []) := rfl
theorem eqChunkResult_self (c a b : Int) (l : List Int) (hl : l.length ≤ 4611686018427387904) : Ev (fun k => laws_eqChunkResult.f k c a b l c a b l) true := by
  unfold laws_eqChunkResult.f
  exact Ev.pos rfl (Ev.bind (eqChunk_self a b l hl) (Ev.pos rfl (Ev.now _)))
theorem markChunkResult_ev (c a b : Int) (l : List Int) (hl : l.length ≤ 281474976710656) : Ev (fun k => laws_markChunkResult.f k c a b l 1) (1 + l.length, mks 1 l.length) := by
  unfold laws_markChunkResult.f
  exact Ev.bind (markChunk_ev a b l hl) (Ev.now _)
theorem heldChunk_ev (a b : Int) (n : Nat) (hn : n ≤ 281474976710656) : Ev (fun k => laws_heldChunk.f k a b (mks 1 n) 1) (1 + n) := by
  unfold laws_heldChunk.f
  exact Ev.bind (heldByteS_ev n hn 1 (by omega) (by omega)) (Ev.neg (by omega) (Ev.now _))
theorem heldChunkResult_ev (c a b : Int) (n : Nat) (hn : n ≤ 281474976710656) : Ev (fun k => laws_heldChunkResult.f k c a b (mks 1 n) 1) (1 + n) := by
  unfold laws_heldChunkResult.f
  exact Ev.bind (heldChunk_ev a b n hn) (Ev.neg (by omega) (Ev.now _))
theorem szInt64S_big {l : List Int} (hl : l.length ≤ 9223372036854775807) {a : Int} (h0 : 0 ≤ a) (h1 : a ≤ 1048576) (h : a < (l.length : Int)) : laws_szInt64S.f l a = some (-1) := by
  unfold laws_szInt64S.f
  rw [w64 (by omega) (by omega), if_pos (by omega)]
theorem szInt64S_ok {l : List Int} {a : Int} (h1 : a ≤ 1048576) (h : (l.length : Int) ≤ a) : laws_szInt64S.f l a = some (a - (l.length : Int)) := by
  unfold laws_szInt64S.f
  rw [w64 (by omega) (by omega), if_neg (by omega)]
theorem l5Bytes_l0 (l : List Int) (hl : l.length ≤ 1000) (d : Nat) : ∀ (i : Nat) (acc : List Int), i + d = l.length → acc.length ≤ 10 + i → Ev (fun k => spec_l5Bytes.l0 k l acc (i : Int)) (acc ++ (l.drop i).map fun n => n % 256) := by
  induction d with
  | zero =>
    intro i acc h ha
    refine Ev.ret fun k => ?_
    simp only [spec_l5Bytes.l0]
    rw [if_neg (by omega), List.drop_of_length_le (by omega), List.map_nil, List.append_nil]
  | succ d ih =>
    intro i acc h ha
    have hi : i < l.length := by omega
    have hr : rd l (i : Int) = l[i] := rd_nat l i hi
    have hw : wrap64 ((i : Int) + 1) = ((i + 1 : Nat) : Int) := w64_succ (by omega)
    have e : acc ++ (l.drop i).map (fun n => n % 256) = (acc ++ [l[i] % 256]) ++ (l.drop (i + 1)).map fun n => n % 256 := by
      rw [drop_cons l i hi, List.map_cons, List.append_assoc, List.singleton_append]
    rw [e]
    refine Ev.step (fun k => by simp only [spec_l5Bytes.l0, hr, hw]; rfl) ?_
    exact Ev.pos (by omega) (Ev.pos (by omega) (Ev.pos (by omega) (ih (i + 1) (acc ++ [l[i] % 256]) (by omega) (by rw [List.length_append, List.length_singleton]; omega))))
theorem l5Bytes_ev (l : List Int) (hl : l.length ≤ 1000) : Ev (fun k => spec_l5Bytes.f k l) ([(l.length : Int) % 256] ++ l.map fun n => n % 256) := by
  have h := l5Bytes_l0 l hl l.length 0 [(l.length : Int) % 256] (by omega) (by simp)
  unfold spec_l5Bytes.f
  exact h
theorem bytesOf_l0 (l : List Int) (hl : l.length ≤ 1000) (d : Nat) : ∀ (i : Nat) (acc : List Int), i + d = l.length → acc.length ≤ 10 + i → Ev (fun k => impl_bytesOf.l0 k acc l (l.length : Int) (i : Int)) (acc ++ (l.drop i).map fun n => n % 256) := by
  induction d with
  | zero =>
    intro i acc h ha
    refine Ev.ret fun k => ?_
    simp only [impl_bytesOf.l0]
    rw [if_neg (by omega), List.drop_of_length_le (by omega), List.map_nil, List.append_nil]
  | succ d ih =>
    intro i acc h ha
    have hi : i < l.length := by omega
    have hr : rd l (i : Int) = l[i] := rd_nat l i hi
    have hw : wrap64 ((i : Int) + 1) = ((i + 1 : Nat) : Int) := w64_succ (by omega)
    have e : acc ++ (l.drop i).map (fun n => n % 256) = (acc ++ [l[i] % 256]) ++ (l.drop (i + 1)).map fun n => n % 256 := by
      rw [drop_cons l i hi, List.map_cons, List.append_assoc, List.singleton_append]
    rw [e]
    refine Ev.step (fun k => by simp only [impl_bytesOf.l0, hr, hw]; rfl) ?_
    exact Ev.pos (by omega) (Ev.pos (by omega) (Ev.pos (by omega) (Ev.pos (by omega) (ih (i + 1) (acc ++ [l[i] % 256]) (by omega) (by rw [List.length_append, List.length_singleton]; omega)))))
theorem bytesOf_ev (l : List Int) (hl : l.length ≤ 1000) : Ev (fun k => impl_bytesOf.f k l) (l.map fun n => n % 256) := by
  have h := bytesOf_l0 l hl l.length 0 [] (by omega) (by simp)
  unfold impl_bytesOf.f
  exact h
def codesF : List Int → Int
  | [] => 0
  | c :: t => if inB c 0 20 = true then codesF t else 3
def ansF (a : Int) (l : List Int) : Int := if isWd a = true then (if 1 ≤ l.length ∧ l.length ≤ 4 then codesF l else 2) else 3
def ansBody (a : Int) (l : List Int) : List Int := pack4 a ++ ([(l.length : Int) % 256] ++ l.map fun n => n % 256)
def ansR (a : Int) (l : List Int) : Int × Int × Int × List Int := if ansF a l = 0 then (0, 128, 0, ansBody a l) else (ansF a l, 0, 0, [])
theorem ansBody_len (a : Int) (l : List Int) : (ansBody a l).length = 5 + l.length := by simp [ansBody, pack4]; omega
theorem ansF_zero {a : Int} {l : List Int} (h : ansF a l = 0) : Wd a ∧ l.length ≤ 4 := by
  unfold ansF at h
  by_cases h0 : isWd a = true
  · by_cases h1 : 1 ≤ l.length ∧ l.length ≤ 4
    · exact ⟨isWd_true.1 h0, h1.2⟩
    · rw [if_pos h0, if_neg h1] at h; exact absurd h (by decide)
  · rw [if_neg h0] at h; exact absurd h (by decide)
theorem ansR_len (a : Int) (l : List Int) : (ansR a l).2.2.2.length ≤ 9 := by
  unfold ansR
  by_cases h : ansF a l = 0
  · rw [if_pos h]; have := (ansF_zero h).2; show (ansBody a l).length ≤ 9; rw [ansBody_len]; omega
  · rw [if_neg h]; exact Nat.zero_le _
theorem ansFault_l0 (a : Int) (l : List Int) (hl : l.length ≤ 1000) (d : Nat) : ∀ i : Nat, i + d = l.length → Ev (fun k => spec_l5AnswerFault.l0 k (i : Int) a l) (codesF (l.drop i)) := by
  induction d with
  | zero =>
    intro i h
    refine Ev.ret fun k => ?_
    simp only [spec_l5AnswerFault.l0]
    rw [if_neg (by omega), List.drop_of_length_le (by omega)]; rfl
  | succ d ih =>
    intro i h
    have hi : i < l.length := by omega
    have hr : rd l (i : Int) = l[i] := rd_nat l i hi
    have hw : wrap64 ((i : Int) + 1) = ((i + 1 : Nat) : Int) := w64_succ (by omega)
    rw [drop_cons l i hi]
    refine Ev.step (fun k => by simp only [spec_l5AnswerFault.l0, l1In_eq, Option.bind_some, hr, hw]; rfl) (Ev.pos (by omega) (Ev.pos (by omega) ?_))
    show Ev _ (if inB l[i] 0 20 = true then codesF (l.drop (i + 1)) else 3)
    by_cases h0 : inB l[i] 0 20 = true
    · rw [if_pos h0]; exact Ev.pos h0 (ih (i + 1) (by omega))
    · rw [if_neg h0]; exact Ev.neg h0 (Ev.now _)
theorem ansFault_ev (a : Int) (l : List Int) : Ev (fun k => spec_l5AnswerFault.f k a l) (ansF a l) := by
  unfold spec_l5AnswerFault.f ansF
  simp only [l1Word32_eq, Option.bind_some]
  by_cases h0 : isWd a = true
  · rw [if_pos h0]
    refine Ev.pos h0 ?_
    by_cases h1 : (l.length : Int) < 1
    · rw [if_neg (by omega)]
      exact Ev.pos h1 (Ev.ret fun k => by simp only [spec_l5AnswerFault.j0, if_true])
    · refine Ev.neg h1 ?_
      by_cases h2 : (l.length : Int) > 4
      · rw [if_neg (by omega), decide_eq_true h2]
        exact Ev.ret fun k => by simp only [spec_l5AnswerFault.j0, if_true]
      · rw [if_pos (by omega), decide_eq_false h2]
        refine Ev.step (fun k => by simp only [spec_l5AnswerFault.j0, Bool.false_eq_true, if_false] <;> rfl) ?_
        exact ansFault_l0 a l (by omega) l.length 0 (by omega)
  · rw [if_neg h0]
    exact Ev.neg h0 (Ev.now _)
theorem specPackAnswer_ev (a : Int) (l : List Int) : Ev (fun k => spec_PackAnswer.f k a l) (ansR a l) := by
  unfold spec_PackAnswer.f ansR
  refine Ev.bind (ansFault_ev a l) ?_
  by_cases h : ansF a l = 0
  · rw [if_pos h]
    obtain ⟨h0, h1⟩ := ansF_zero h
    refine Ev.pos h (Ev.bind (a := (128, 0, ansBody a l)) ?_ (Ev.now _))
    unfold spec_l5Answer.f
    rw [l1Pack_eq h0]
    simp only [Option.bind_some]
    exact Ev.bind (l5Bytes_ev l (by omega)) (Ev.pos (by simp [pack4]; omega) (Ev.now _))
  · rw [if_neg h]
    exact Ev.neg h (Ev.bind (Ev.all fun _ => l5Bad_eq _) (Ev.now _))
theorem ansCode_l0 (l : List Int) (hl : l.length ≤ 1000) (d : Nat) : ∀ i : Nat, i + d = l.length → Ev (fun k => impl_answerCode.l0 k l (l.length : Int) (i : Int)) (codesF (l.drop i)) := by
  induction d with
  | zero =>
    intro i h
    refine Ev.ret fun k => ?_
    simp only [impl_answerCode.l0]
    rw [if_neg (by omega), List.drop_of_length_le (by omega)]; rfl
  | succ d ih =>
    intro i h
    have hi : i < l.length := by omega
    have hr : rd l (i : Int) = l[i] := rd_nat l i hi
    have hw : wrap64 ((i : Int) + 1) = ((i + 1 : Nat) : Int) := w64_succ (by omega)
    rw [drop_cons l i hi]
    refine Ev.step (fun k => by simp only [impl_answerCode.l0, within_eq, Option.bind_some, hr, hw]; rfl) (Ev.pos (by omega) (Ev.pos (by omega) (Ev.pos (by omega) ?_)))
    show Ev _ (if inB l[i] 0 20 = true then codesF (l.drop (i + 1)) else 3)
    by_cases h0 : inB l[i] 0 20 = true
    · rw [if_pos h0]; exact Ev.pos h0 (ih (i + 1) (by omega))
    · rw [if_neg h0]; exact Ev.neg h0 (Ev.now _)
theorem ansCode_ev (a : Int) (l : List Int) : Ev (fun k => impl_answerCode.f k a l) (ansF a l) := by
  unfold impl_answerCode.f ansF
  simp only [isWord_eq, within_eq, Option.bind_some]
  by_cases h0 : isWd a = true
  · rw [if_pos h0]
    refine Ev.pos h0 ?_
    by_cases h1 : 1 ≤ l.length ∧ l.length ≤ 4
    · rw [if_pos h1]
      exact Ev.pos (inB_true.2 (by omega)) (ansCode_l0 l (by omega) l.length 0 (by omega))
    · rw [if_neg h1]
      exact Ev.neg (fun h => h1 (by have := inB_true.1 h; omega)) (Ev.now _)
  · rw [if_neg h0]
    exact Ev.neg h0 (Ev.now _)
theorem implPackAnswer_ev (a : Int) (l : List Int) : Ev (fun k => impl_PackAnswer.f k a l) (ansR a l) := by
  unfold impl_PackAnswer.f ansR
  refine Ev.bind (ansCode_ev a l) ?_
  by_cases h : ansF a l = 0
  · rw [if_pos h]
    obtain ⟨h0, h1⟩ := ansF_zero h
    have e : [pack4 a, [(l.length : Int) % 256], l.map fun n => n % 256].flatten = ansBody a l := by
      simp only [List.flatten_cons, List.flatten_nil, List.append_nil, ansBody]
    have hc := chunk_ev 128 0 [pack4 a, [(l.length : Int) % 256], l.map fun n => n % 256] (by simp) (by rw [e, ansBody_len]; omega)
    rw [e] at hc
    simp only [four_eq, Option.bind_some]
    exact Ev.pos h (Ev.bind (bytesOf_ev l (by omega)) (Ev.bind hc (Ev.now _)))
  · rw [if_neg h]
    exact Ev.neg h (Ev.now _)
theorem szAnswer_big {a : Int} {l : List Int} (hl : l.length ≤ 9223372036854775807) {n : Int} (h0 : 0 ≤ n) (h1 : n ≤ 1048576) (h : n < (l.length : Int)) : laws_szAnswer.f a l n = some (-1) := by
  unfold laws_szAnswer.f
  rw [szInt64S_big hl h0 h1 h]; rfl
theorem szAnswer_ok {a : Int} {l : List Int} {n : Int} (h1 : n ≤ 1048576) (h : (l.length : Int) ≤ n) : laws_szAnswer.f a l n = some (n - (l.length : Int)) := by
  unfold laws_szAnswer.f
  rw [szInt64S_ok h1 h]; simp only [Option.bind_some]
  rw [if_neg (by omega)]
theorem toAnswer_ev (a : Int) (l : List Int) (hl : l.length ≤ 35184372088832) : Ev (fun k => laws_toAnswer.f k a l) (a, l) := by
  unfold laws_toAnswer.f
  exact Ev.bind (toInt64S_ev l hl) (Ev.now _)
theorem eqAnswer_self (a : Int) (l : List Int) (hl : l.length ≤ 4611686018427387904) : Ev (fun k => laws_eqAnswer.f k a l a l) true := by
  unfold laws_eqAnswer.f
  exact Ev.pos rfl (Ev.bind (eqInt64S_self l hl) (Ev.pos rfl (Ev.now _)))
theorem markAnswer_ev (a : Int) (l : List Int) (hl : l.length ≤ 281474976710656) : Ev (fun k => laws_markAnswer.f k a l 1) (1 + l.length, mkI 1 l.length) := by
  unfold laws_markAnswer.f
  exact Ev.bind (markInt64S_ev l hl 1 (by omega) (by omega)) (Ev.now _)
theorem FnExactPackAnswer : laws_FnExactPackAnswer.Pure := by
  intro a l _ hl
  have hr := ansR_len a l
  apply Ev.rounds
  unfold laws_FnExactPackAnswer.f
  by_cases hbig : (1048576 : Int) < (l.length : Int)
  · exact Ev.bind (Ev.all fun _ => szAnswer_big hl.1 (by omega) (by omega) hbig) (Ev.pos (by omega) (Ev.now _))
  have g : l.length ≤ 1048576 := by omega
  have hT := toAnswer_ev a l (by omega)
  have hI := implPackAnswer_ev a l
  refine Ev.bind (Ev.all fun _ => szAnswer_ok (by omega) (by omega)) (Ev.neg (by omega) (Ev.bind hT (Ev.bind (specPackAnswer_ev a l) (Ev.bind hT (Ev.bind hI (Ev.bind (eqChunkResult_self _ _ _ _ (by omega)) (Ev.pos rfl ?_)))))))
  refine Ev.bind hT (Ev.bind (eqAnswer_self a l (by omega)) (Ev.pos rfl ?_))
  refine Ev.bind (markAnswer_ev a l (by omega)) (Ev.neg (by omega) (Ev.bind (eqChunkResult_self _ _ _ _ (by omega)) ?_))
  refine Ev.step (fun k => by simp only [laws_FnExactPackAnswer.j0]; rfl) (Ev.neg (by decide) ?_)
  refine Ev.bind (markChunkResult_ev _ _ _ _ (by omega)) (Ev.bind (heldChunkResult_ev _ _ _ _ (by omega)) (Ev.neg (by omega) (Ev.pos rfl ?_)))
  refine Ev.bind hT (Ev.bind hI (Ev.bind (eqChunkResult_self _ _ _ _ (by omega)) (Ev.pos rfl ?_)))
  exact Ev.bind (heldChunkResult_ev _ _ _ _ (by omega)) (Ev.neg (by omega) (Ev.pos rfl (Ev.now _)))
end FnExactPackAnswer_
theorem FnExactPackAnswer : laws_FnExactPackAnswer.Pure := FnExactPackAnswer_.FnExactPackAnswer
end Go.Proofs.Ytglphklcfpgjbaa.Pure
