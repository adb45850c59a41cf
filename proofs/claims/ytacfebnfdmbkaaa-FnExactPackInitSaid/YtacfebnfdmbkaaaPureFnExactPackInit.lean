/- The pure statement of FnExactPackInit: what the printed functions of the program and of the reference compute makes the law answer true, for all arguments (each number of its kind). -/
import Derived.Test.YtacfebnfdmbkaaaPFnExactPackInitx9
import Derived.Test.YtacfebnfdmbkaaaUFnExactPackInitBase
set_option linter.unusedVariables false
set_option linter.unusedSimpArgs false
namespace Go.Proofs.Ytacfebnfdmbkaaa.Pure
open Go.RowKit Go.Proofs.Ytacfebnfdmbkaaa.PFnExactPackInit Go.Proofs.YtacfebnfdmbkaaaW.PrintWords Go.Proofs.YtacfebnfdmbkaaaW.PrintLast Go.Proofs.YtacfebnfdmbkaaaW.PrintMore Go.Proofs.Ytacfebnfdmbkaaa.Base
namespace FnExactPackInit_
theorem l1In_eq (a b c : Int) : spec_l1In.f a b c = some (inB a b c) := ge_le
theorem within_eq (a b c : Int) : impl_within.f a b c = some (inB a b c) := ge_le
theorem l1Word32_eq (a : Int) : spec_l1Word32.f a = some (isWd a) := by
  unfold spec_l1Word32.f; rw [l1In_eq]; rfl
theorem isWord_eq (a : Int) : impl_isWord.f a = some (isWd a) := by
  unfold impl_isWord.f; rw [within_eq]; rfl
theorem toByteS_l0 (l : List Int) (hl : l.length ≤ 281474976710656) (d : Nat) : ∀ (i : Nat) (x : List Int), i + d = l.length → x.length = l.length → x.take i = l.take i → Ev (fun k => laws_toByteS.l0 k l x (i : Int)) l := by
  induction d with
  | zero =>
    intro i x h hx ht
    have e : x = l := by
      rw [List.take_of_length_le (by omega), List.take_of_length_le (by omega)] at ht
      exact ht
    subst e
    exact Ev.ret fun k => by simp only [laws_toByteS.l0]; rw [if_neg (by omega)]
  | succ d ih =>
    intro i x h hx ht
    have hi : i < l.length := by omega
    refine Ev.step (f := fun k => laws_toByteS.l0 k l (x.set i l[i]) ((i + 1 : Nat) : Int)) (fun k => ?_) ?_
    · simp only [laws_toByteS.l0]
      rw [if_pos (by omega), if_pos (by omega), if_pos (by omega), rd_nat l i hi, w64 (by omega) (by omega)]
      simp only [Int.toNat_natCast]; rfl
    · refine ih (i + 1) _ (by omega) (by rw [List.length_set]; exact hx) ?_
      rw [List.take_succ_eq_append_getElem (by rw [List.length_set]; omega), List.take_succ_eq_append_getElem hi, List.getElem_set_self, List.take_set_of_le (by omega), ht]
theorem toByteS_ev (l : List Int) (hl : l.length ≤ 281474976710656) : Ev (fun k => laws_toByteS.f k l) l := by
  unfold laws_toByteS.f
  simp only [if_pos (show (0 : Int) ≤ (l.length : Int) by omega), if_pos (show ((l.length : Int) : Int).toNat ≤ 281474976710656 by omega)]
  exact toByteS_l0 l hl l.length 0 _ (by omega) (by simp) (by simp)
theorem eqByteS_l0 (l : List Int) (hl : l.length ≤ 4611686018427387904) (d : Nat) : ∀ i : Nat, i + d = l.length → Ev (fun k => laws_eqByteS.l0 k l l (i : Int)) true := by
  induction d with
  | zero =>
    intro i h
    exact Ev.ret fun k => by simp only [laws_eqByteS.l0]; rw [if_neg (by omega)]
  | succ d ih =>
    intro i h
    refine Ev.step (f := fun k => laws_eqByteS.l0 k l l ((i + 1 : Nat) : Int)) (fun k => ?_) (ih (i + 1) (by omega))
    simp only [laws_eqByteS.l0]
    rw [if_pos (by omega), if_pos (by omega), if_pos (by omega), if_pos (by trivial), w64 (by omega) (by omega)]; rfl
theorem eqByteS_self (l : List Int) (hl : l.length ≤ 4611686018427387904) : Ev (fun k => laws_eqByteS.f k l l) true := by
  unfold laws_eqByteS.f
  simp only [if_true]
  exact eqByteS_l0 l hl l.length 0 (by omega)
theorem l1Pack_eq {w : Int} (hw : Wd w) : spec_l1Pack.f w = some (pack4 w) := by
  obtain ⟨_, _⟩ := hw
  unfold spec_l1Pack.f pack4
  rw [Int.tdiv_eq_ediv_of_nonneg (by omega), Int.tdiv_eq_ediv_of_nonneg (by omega), Int.tdiv_eq_ediv_of_nonneg (by omega), w64 (x := w / 16777216) (by omega) (by omega), w64 (x := w / 65536) (by omega) (by omega), w64 (x := w / 256) (by omega) (by omega), Int.tmod_eq_emod_of_nonneg (by omega), Int.tmod_eq_emod_of_nonneg (by omega), Int.tmod_eq_emod_of_nonneg (by omega)]
  simp only [Int.emod_emod]
theorem four_eq (w : Int) : impl_four.f w = some (pack4 w) := rfl
theorem markByteS_l0 (n : Nat) (hn : n ≤ 281474976710656) (a : Int) (ha : 0 ≤ a) (ha1 : a ≤ 4611686018427387904) (d : Nat) : ∀ (i : Nat) (x : List Int), i + d = n → x.length = n → x.take i = mks a i → Ev (fun k => laws_markByteS.l0 k x (a + i) (i : Int)) (a + n, mks a n) := by
  induction d with
  | zero =>
    intro i x h hx ht
    have e : x = mks a n := by
      rw [show i = n by omega, List.take_of_length_le (by omega)] at ht
      exact ht
    obtain rfl : i = n := by omega
    subst e
    exact Ev.ret fun k => by simp only [laws_markByteS.l0]; rw [if_neg (by rw [mks_length]; omega)]
  | succ d ih =>
    intro i x h hx ht
    have hi : i < x.length := by omega
    refine Ev.step (f := fun k => laws_markByteS.l0 k (x.set i ((a + i) % 256)) (a + ((i + 1 : Nat) : Int)) ((i + 1 : Nat) : Int)) (fun k => ?_) (ih (i + 1) _ (by omega) (by rw [List.length_set]; exact hx) ?_)
    · simp only [laws_markByteS.l0]
      rw [if_pos (by omega), if_pos (by omega), w64 (x := (i : Int) + 1) (by omega) (by omega), w64 (x := a + i + 1) (by omega) (by omega)]
      simp only [Int.toNat_natCast]
      have : a + (i : Int) + 1 = a + ((i + 1 : Nat) : Int) := by omega
      rw [this]; rfl
    · rw [List.take_succ_eq_append_getElem (by rw [List.length_set]; omega), List.getElem_set_self, List.take_set_of_le (by omega), ht, mks_snoc]
theorem markByteS_ev (l : List Int) (hl : l.length ≤ 281474976710656) (a : Int) (ha : 0 ≤ a) (ha1 : a ≤ 4611686018427387904) : Ev (fun k => laws_markByteS.f k l a) (a + l.length, mks a l.length) := by
  have h := markByteS_l0 l.length hl a ha ha1 l.length 0 l (by omega) rfl rfl
  unfold laws_markByteS.f
  simpa only [Int.natCast_zero, Int.add_zero] using h
theorem heldByteS_l0 (n : Nat) (hn : n ≤ 281474976710656) (a : Int) (ha : 0 ≤ a) (ha1 : a ≤ 4611686018427387904) (d : Nat) : ∀ (i : Nat), i + d = n → Ev (fun k => laws_heldByteS.l0 k (mks a n) (a + i) (i : Int)) (a + n) := by
  induction d with
  | zero =>
    intro i h
    obtain rfl : i = n := by omega
    exact Ev.ret fun k => by simp only [laws_heldByteS.l0]; rw [if_neg (by rw [mks_length]; omega)]
  | succ d ih =>
    intro i h
    refine Ev.step (f := fun k => laws_heldByteS.l0 k (mks a n) (a + ((i + 1 : Nat) : Int)) ((i + 1 : Nat) : Int)) (fun k => ?_) (ih (i + 1) (by omega))
    simp only [laws_heldByteS.l0]
    rw [if_pos (by rw [mks_length]; omega), if_pos (by omega), rd_nat _ i (by rw [mks_length]; omega), mks_get a n i (by omega), if_pos rfl, w64 (x := (i : Int) + 1) (by omega) (by omega), w64 (x := a + i + 1) (by omega) (by omega)]
    have : a + (i : Int) + 1 = a + ((i + 1 : Nat) : Int) := by omega
    rw [this]; rfl
theorem heldByteS_ev (n : Nat) (hn : n ≤ 281474976710656) (a : Int) (ha : 0 ≤ a) (ha1 : a ≤ 4611686018427387904) : Ev (fun k => laws_heldByteS.f k (mks a n) a) (a + n) := by
  have h := heldByteS_l0 n hn a ha ha1 n 0 (by omega)
  unfold laws_heldByteS.f
  simpa only [Int.natCast_zero, Int.add_zero] using h
theorem eqInt64S_l0 (l : List Int) (hl : l.length ≤ 4611686018427387904) (d : Nat) : ∀ i : Nat, i + d = l.length → Ev (fun k => laws_eqInt64S.l0 k l l (i : Int)) true := by
  induction d with
  | zero =>
    intro i h
    exact Ev.ret fun k => by simp only [laws_eqInt64S.l0]; rw [if_neg (by omega)]
  | succ d ih =>
    intro i h
    refine Ev.step (f := fun k => laws_eqInt64S.l0 k l l ((i + 1 : Nat) : Int)) (fun k => ?_) (ih (i + 1) (by omega))
    simp only [laws_eqInt64S.l0]
    rw [if_pos (by omega), if_pos (by omega), if_pos (by omega), if_pos (by trivial), w64 (by omega) (by omega)]; rfl
theorem eqInt64S_self (l : List Int) (hl : l.length ≤ 4611686018427387904) : Ev (fun k => laws_eqInt64S.f k l l) true := by
  unfold laws_eqInt64S.f
  simp only [if_true]
  exact eqInt64S_l0 l hl l.length 0 (by omega)
theorem markInt64S_l0 (n : Nat) (hn : n ≤ 281474976710656) (a : Int) (ha : 0 ≤ a) (ha1 : a ≤ 4611686018427387904) (d : Nat) : ∀ (i : Nat) (x : List Int), i + d = n → x.length = n → x.take i = mkI a i → Ev (fun k => laws_markInt64S.l0 k x (a + i) (i : Int)) (a + n, mkI a n) := by
  induction d with
  | zero =>
    intro i x h hx ht
    have e : x = mkI a n := by
      rw [show i = n by omega, List.take_of_length_le (by omega)] at ht
      exact ht
    obtain rfl : i = n := by omega
    subst e
    exact Ev.ret fun k => by simp only [laws_markInt64S.l0]; rw [if_neg (by rw [mkI_length]; omega)]
  | succ d ih =>
    intro i x h hx ht
    have hi : i < x.length := by omega
    refine Ev.step (f := fun k => laws_markInt64S.l0 k (x.set i (a + i)) (a + ((i + 1 : Nat) : Int)) ((i + 1 : Nat) : Int)) (fun k => ?_) (ih (i + 1) _ (by omega) (by rw [List.length_set]; exact hx) ?_)
    · simp only [laws_markInt64S.l0]
      rw [if_pos (by omega), if_pos (by omega), w64 (x := (i : Int) + 1) (by omega) (by omega), w64 (x := a + i + 1) (by omega) (by omega)]
      simp only [Int.toNat_natCast]
      have : a + (i : Int) + 1 = a + ((i + 1 : Nat) : Int) := by omega
      rw [this]; rfl
    · rw [List.take_succ_eq_append_getElem (by rw [List.length_set]; omega), List.getElem_set_self, List.take_set_of_le (by omega), ht, mkI_snoc]
theorem markInt64S_ev (l : List Int) (hl : l.length ≤ 281474976710656) (a : Int) (ha : 0 ≤ a) (ha1 : a ≤ 4611686018427387904) : Ev (fun k => laws_markInt64S.f k l a) (a + l.length, mkI a l.length) := by
  have h := markInt64S_l0 l.length hl a ha ha1 l.length 0 l (by omega) rfl rfl
  unfold laws_markInt64S.f
  simpa only [Int.natCast_zero, Int.add_zero] using h
theorem toInt64S_l0 (l : List Int) (hl : l.length ≤ 35184372088832) (d : Nat) : ∀ (i : Nat) (x : List Int), i + d = l.length → x.length = l.length → x.take i = l.take i → Ev (fun k => laws_toInt64S.l0 k l x (i : Int)) l := by
  induction d with
  | zero =>
    intro i x h hx ht
    obtain rfl : i = l.length := by omega
    have e : x = l := by rwa [List.take_of_length_le (by omega), List.take_of_length_le (by omega)] at ht
    subst e
    exact Ev.ret fun k => by simp only [laws_toInt64S.l0]; rw [if_neg (by omega)]
  | succ d ih =>
    intro i x h hx ht
    refine Ev.step (fun k => ?_) (ih (i + 1) (x.set i (rd l (i : Int))) (by omega) (by rw [List.length_set]; exact hx) ?_)
    · simp only [laws_toInt64S.l0]
      rw [if_pos (by omega), if_pos (by omega), if_pos (by omega), w64 (x := (i : Int) + 1) (by omega) (by omega)]
      simp only [Int.toNat_natCast]; rfl
    · rw [List.take_succ_eq_append_getElem (by rw [List.length_set]; omega), List.getElem_set_self, List.take_set_of_le (by omega), ht, rd_nat l i (by omega), ← List.take_succ_eq_append_getElem (by omega)]
theorem toInt64S_ev (l : List Int) (hl : l.length ≤ 35184372088832) : Ev (fun k => laws_toInt64S.f k l) l := by
  unfold laws_toInt64S.f
  refine Ev.pos (by omega) (Ev.pos (by omega) ?_)
  exact toInt64S_l0 l hl l.length 0 _ (by omega) (by simp) (by simp)
theorem blk_len {p : List Int} {m n : Nat} (hp : p.length = 64 * m) (hn : n < m) : ((p.take (64 * n + 64)).drop (64 * n)).length = 64 := by
  rw [List.length_drop, List.length_take]; omega
theorem blk_ifs {n m : Nat} (hm : m ≤ 1000) (hn : n < m) : ((64 * n : Nat) : Int) < ((64 * m : Nat) : Int) ∧ 0 ≤ ((64 * n : Nat) : Int) ∧ ((64 * n : Nat) : Int) ≤ ((64 * n + 64 : Nat) : Int) ∧ ((64 * n + 64 : Nat) : Int) ≤ ((64 * m : Nat) : Int) ∧ wrap64 (((64 * n : Nat) : Int) + 64) = ((64 * n + 64 : Nat) : Int) := by
  refine ⟨by omega, by omega, by omega, by omega, ?_⟩
  rw [w64 (by omega) (by omega)]; omega
theorem padded_64 (l : List Int) : (padded l).length = 64 * ((padded l).length / 64) := by
  rw [padded_length]; unfold zerosFor; omega
theorem padded_few {l : List Int} (h : l.length ≤ 700) : (padded l).length / 64 ≤ 1000 := by
  rw [padded_length]; unfold zerosFor; omega
theorem szByteS_big {l : List Int} (hl : l.length ≤ 9223372036854775807) {a : Int} (h0 : 0 ≤ a) (h1 : a ≤ 1048576) (h : a < (l.length : Int)) : laws_szByteS.f l a = some (-1) := by
  unfold laws_szByteS.f
  rw [w64 (by omega) (by omega), if_pos (by omega)]
theorem szByteS_ok {l : List Int} {a : Int} (h1 : a ≤ 1048576) (h : (l.length : Int) ≤ a) : laws_szByteS.f l a = some (a - (l.length : Int)) := by
  unfold laws_szByteS.f
  rw [w64 (by omega) (by omega), if_neg (by omega)]
theorem eqChunk_self (a b : Int) (l : List Int) (hl : l.length ≤ 4611686018427387904) : Ev (fun k => laws_eqChunk.f k a b l a b l) true := by
  unfold laws_eqChunk.f
  exact Ev.pos rfl (Ev.pos rfl (Ev.bind (eqByteS_self l hl) (Ev.pos rfl (Ev.now _))))
theorem markChunk_ev (a b : Int) (l : List Int) (hl : l.length ≤ 281474976710656) : Ev (fun k => laws_markChunk.f k a b l 1) (1 + l.length, mks 1 l.length) := by
  unfold laws_markChunk.f
  exact Ev.bind (markByteS_ev l hl 1 (by omega) (by omega)) (Ev.now _)
theorem Grow_eq {n : Int} (h0 : 0 ≤ n) (h1 : n ≤ 1000000) : slices_Grow_byte_byte.f [] n = some [] := by
  unfold slices_Grow_byte_byte.f
  rw [if_pos h0, if_pos (by omega)]
def sumLen (xs : List (List Int)) : Nat := xs.flatten.length
theorem rdL1 (xs : List (List Int)) (i : Nat) (h : i < xs.length) : rd_L2 xs (i : Int) = xs[i] := by
  unfold rd_L2; rw [Int.toNat_natCast, List.getD_eq_getElem?_getD, List.getElem?_eq_getElem h]; rfl
theorem Concat_l1 (x0 xs : List (List Int)) (hn : xs.length ≤ 1000) (hs : xs.flatten.length ≤ 1000000) (d : Nat) : ∀ (i : Nat) (acc : List Int), i + d = xs.length → acc.length + ((xs.drop i).flatten).length ≤ 1000000 → Ev (fun k => slices_Concat_byte_byte.l1 k acc xs (xs.length : Int) (i : Int)) (acc ++ (xs.drop i).flatten) := by
  induction d with
  | zero =>
    intro i acc h ha
    refine Ev.ret fun k => ?_
    simp only [slices_Concat_byte_byte.l1]
    rw [if_neg (by omega), List.drop_of_length_le (by omega)]
    simp
  | succ d ih =>
    intro i acc h ha
    have hi : i < xs.length := by omega
    have hr : rd_L2 xs (i : Int) = xs[i] := rdL1 xs i hi
    have hw : wrap64 ((i : Int) + 1) = ((i + 1 : Nat) : Int) := w64_succ (by omega)
    have e : (xs.drop i).flatten = xs[i] ++ (xs.drop (i + 1)).flatten := by rw [drop_cons xs i hi, List.flatten_cons]
    have hl : (xs.drop i).flatten.length = xs[i].length + (xs.drop (i + 1)).flatten.length := by rw [e, List.length_append]
    rw [e, ← List.append_assoc]
    refine Ev.step (fun k => by simp only [slices_Concat_byte_byte.l1, hr, hw]; rfl) ?_
    exact Ev.pos (by omega) (Ev.pos (by omega) (Ev.pos (by omega) (Ev.pos (by omega) (ih (i + 1) (acc ++ xs[i]) (by omega) (by rw [List.length_append]; omega)))))
theorem Concat_l0 (xs : List (List Int)) (hn : xs.length ≤ 1000) (hs : xs.flatten.length ≤ 1000000) (d : Nat) : ∀ (i s : Nat), i + d = xs.length → s + ((xs.drop i).flatten).length ≤ 1000000 → Ev (fun k => slices_Concat_byte_byte.l0 k xs (s : Int) xs (xs.length : Int) (i : Int)) xs.flatten := by
  induction d with
  | zero =>
    intro i s h ha
    have h1 := Concat_l1 xs xs hn hs xs.length 0 [] (by omega) (by simpa using hs)
    simp only [List.drop_zero, List.nil_append] at h1
    refine Ev.step (fun k => by simp only [slices_Concat_byte_byte.l0, Grow_eq (n := (s : Int)) (by omega) (by omega), Option.bind_some]; rfl) (Ev.neg (by omega) h1)
  | succ d ih =>
    intro i s h ha
    have hi : i < xs.length := by omega
    have hr : rd_L2 xs (i : Int) = xs[i] := rdL1 xs i hi
    have hw : wrap64 ((i : Int) + 1) = ((i + 1 : Nat) : Int) := w64_succ (by omega)
    have hl : (xs.drop i).flatten.length = xs[i].length + (xs.drop (i + 1)).flatten.length := by rw [drop_cons xs i hi, List.flatten_cons, List.length_append]
    have hv : wrap64 ((s : Int) + (xs[i].length : Int)) = ((s + xs[i].length : Nat) : Int) := by rw [w64 (by omega) (by omega)]; omega
    refine Ev.step (fun k => by simp only [slices_Concat_byte_byte.l0, hr, hw, hv]; rfl) ?_
    exact Ev.pos (by omega) (Ev.pos (by omega) (Ev.pos (by omega) (Ev.neg (by omega) (ih (i + 1) (s + xs[i].length) (by omega) (by omega)))))
theorem Concat_ev (xs : List (List Int)) (hn : xs.length ≤ 1000) (hs : xs.flatten.length ≤ 1000000) : Ev (fun k => slices_Concat_byte_byte.f k xs) xs.flatten := by
  have h := Concat_l0 xs hn hs xs.length 0 0 (by omega) (by simpa using hs)
  unfold slices_Concat_byte_byte.f
  exact h
theorem chunk_ev (a b : Int) (xs : List (List Int)) (hn : xs.length ≤ 1000) (hs : xs.flatten.length ≤ 1000000) : Ev (fun k => impl_chunk.f k a b xs) (0, a, b, xs.flatten) := by
  unfold impl_chunk.f
  exact Ev.bind (Concat_ev xs hn hs) (Ev.now _)
theorem isAddr_eq (n : Int) : impl_isAddr.f n = some (inB n 1 255) := by unfold impl_isAddr.f; rw [within_eq]; rfl
theorem l5Bad_eq (c : Int) : spec_l5Bad.f c = some (c, 0, 0, []) := rfl
theorem eqChunkResult_self (c a b : Int) (l : List Int) (hl : l.length ≤ 4611686018427387904) : Ev (fun k => laws_eqChunkResult.f k c a b l c a b l) true := by
  unfold laws_eqChunkResult.f
  exact Ev.pos rfl (Ev.bind (eqChunk_self a b l hl) (Ev.pos rfl (Ev.now _)))
theorem markChunkResult_ev (c a b : Int) (l : List Int) (hl : l.length ≤ 281474976710656) : Ev (fun k => laws_markChunkResult.f k c a b l 1) (1 + l.length, mks 1 l.length) := by
  unfold laws_markChunkResult.f
  exact Ev.bind (markChunk_ev a b l hl) (Ev.now _)
theorem heldChunk_ev (a b : Int) (n : Nat) (hn : n ≤ 281474976710656) : Ev (fun k => laws_heldChunk.f k a b (mks 1 n) 1) (1 + n) := by
  unfold laws_heldChunk.f
  exact Ev.bind (heldByteS_ev n hn 1 (by omega) (by omega)) (Ev.neg (by omega) (Ev.now _))
theorem heldChunkResult_ev (c a b : Int) (n : Nat) (hn : n ≤ 281474976710656) : Ev (fun k => laws_heldChunkResult.f k c a b (mks 1 n) 1) (1 + n) := by
  unfold laws_heldChunkResult.f
  exact Ev.bind (heldChunk_ev a b n hn) (Ev.neg (by omega) (Ev.now _))
theorem szInt64S_big {l : List Int} (hl : l.length ≤ 9223372036854775807) {a : Int} (h0 : 0 ≤ a) (h1 : a ≤ 1048576) (h : a < (l.length : Int)) : laws_szInt64S.f l a = some (-1) := by
  unfold laws_szInt64S.f
  rw [w64 (by omega) (by omega), if_pos (by omega)]
theorem szInt64S_ok {l : List Int} {a : Int} (h1 : a ≤ 1048576) (h : (l.length : Int) ≤ a) : laws_szInt64S.f l a = some (a - (l.length : Int)) := by
  unfold laws_szInt64S.f
  rw [w64 (by omega) (by omega), if_neg (by omega)]
theorem l5Bytes_l0 (l : List Int) (hl : l.length ≤ 1000) (d : Nat) : ∀ (i : Nat) (acc : List Int), i + d = l.length → acc.length ≤ 10 + i → Ev (fun k => spec_l5Bytes.l0 k l acc (i : Int)) (acc ++ (l.drop i).map fun n => n % 256) := by
  induction d with
  | zero =>
    intro i acc h ha
    refine Ev.ret fun k => ?_
    simp only [spec_l5Bytes.l0]
    rw [if_neg (by omega), List.drop_of_length_le (by omega), List.map_nil, List.append_nil]
  | succ d ih =>
    intro i acc h ha
    have hi : i < l.length := by omega
    have hr : rd l (i : Int) = l[i] := rd_nat l i hi
    have hw : wrap64 ((i : Int) + 1) = ((i + 1 : Nat) : Int) := w64_succ (by omega)
    have e : acc ++ (l.drop i).map (fun n => n % 256) = (acc ++ [l[i] % 256]) ++ (l.drop (i + 1)).map fun n => n % 256 := by
      rw [drop_cons l i hi, List.map_cons, List.append_assoc, List.singleton_append]
    rw [e]
    refine Ev.step (fun k => by simp only [spec_l5Bytes.l0, hr, hw]; rfl) ?_
    exact Ev.pos (by omega) (Ev.pos (by omega) (Ev.pos (by omega) (ih (i + 1) (acc ++ [l[i] % 256]) (by omega) (by rw [List.length_append, List.length_singleton]; omega))))
theorem l5Bytes_ev (l : List Int) (hl : l.length ≤ 1000) : Ev (fun k => spec_l5Bytes.f k l) ([(l.length : Int) % 256] ++ l.map fun n => n % 256) := by
  have h := l5Bytes_l0 l hl l.length 0 [(l.length : Int) % 256] (by omega) (by simp)
  unfold spec_l5Bytes.f
  exact h
theorem bytesOf_l0 (l : List Int) (hl : l.length ≤ 1000) (d : Nat) : ∀ (i : Nat) (acc : List Int), i + d = l.length → acc.length ≤ 10 + i → Ev (fun k => impl_bytesOf.l0 k acc l (l.length : Int) (i : Int)) (acc ++ (l.drop i).map fun n => n % 256) := by
  induction d with
  | zero =>
    intro i acc h ha
    refine Ev.ret fun k => ?_
    simp only [impl_bytesOf.l0]
    rw [if_neg (by omega), List.drop_of_length_le (by omega), List.map_nil, List.append_nil]
  | succ d ih =>
    intro i acc h ha
    have hi : i < l.length := by omega
    have hr : rd l (i : Int) = l[i] := rd_nat l i hi
    have hw : wrap64 ((i : Int) + 1) = ((i + 1 : Nat) : Int) := w64_succ (by omega)
    have e : acc ++ (l.drop i).map (fun n => n % 256) = (acc ++ [l[i] % 256]) ++ (l.drop (i + 1)).map fun n => n % 256 := by
      rw [drop_cons l i hi, List.map_cons, List.append_assoc, List.singleton_append]
    rw [e]
    refine Ev.step (fun k => by simp only [impl_bytesOf.l0, hr, hw]; rfl) ?_
    exact Ev.pos (by omega) (Ev.pos (by omega) (Ev.pos (by omega) (Ev.pos (by omega) (ih (i + 1) (acc ++ [l[i] % 256]) (by omega) (by rw [List.length_append, List.length_singleton]; omega)))))
theorem bytesOf_ev (l : List Int) (hl : l.length ≤ 1000) : Ev (fun k => impl_bytesOf.f k l) (l.map fun n => n % 256) := by
  have h := bytesOf_l0 l hl l.length 0 [] (by omega) (by simp)
  unfold impl_bytesOf.f
  exact h
theorem l5Addr_eq (n : Int) : spec_l5Addr.f n = some (inB n 1 255) := by unfold spec_l5Addr.f; rw [l1In_eq]; rfl
def hasB (a : Int) : List Int → Bool
  | [] => false
  | c :: t => if c = a then true else hasB a t
theorem l1Has_l0 (l : List Int) (a : Int) (hl : l.length ≤ 1000) (d : Nat) : ∀ i : Nat, i + d = l.length → Ev (fun k => spec_l1Has.l0 k l a (i : Int)) (hasB a (l.drop i)) := by
  induction d with
  | zero =>
    intro i h
    refine Ev.ret fun k => ?_
    simp only [spec_l1Has.l0]
    rw [if_neg (by omega), List.drop_of_length_le (by omega)]; rfl
  | succ d ih =>
    intro i h
    have hi : i < l.length := by omega
    have hr : rd l (i : Int) = l[i] := rd_nat l i hi
    have hw : wrap64 ((i : Int) + 1) = ((i + 1 : Nat) : Int) := w64_succ (by omega)
    rw [drop_cons l i hi]
    refine Ev.step (fun k => by simp only [spec_l1Has.l0, hr, hw]; rfl) (Ev.pos (by omega) (Ev.pos (by omega) ?_))
    unfold hasB
    by_cases h0 : l[i] = a
    · rw [if_pos h0]; exact Ev.pos h0 (Ev.now _)
    · rw [if_neg h0]; exact Ev.neg h0 (ih (i + 1) (by omega))
theorem l1Has_ev (l : List Int) (a : Int) (hl : l.length ≤ 1000) : Ev (fun k => spec_l1Has.f k l a) (hasB a l) := by
  unfold spec_l1Has.f
  exact l1Has_l0 l a hl l.length 0 (by omega)
theorem IndexI_l0 (l : List Int) (a : Int) (hl : l.length ≤ 1000) (d : Nat) : ∀ i : Nat, i + d = l.length → ∃ v, Ev (fun k => slices_Index_int64_int64.l0 k l a (l.length : Int) (i : Int)) v ∧ decide (v ≥ 0) = hasB a (l.drop i) := by
  induction d with
  | zero =>
    intro i h
    refine ⟨-1, Ev.ret fun k => ?_, ?_⟩
    · simp only [slices_Index_int64_int64.l0]
      rw [if_neg (by omega)]
    · rw [List.drop_of_length_le (by omega)]; rfl
  | succ d ih =>
    intro i h
    have hi : i < l.length := by omega
    have hr : rd l (i : Int) = l[i] := rd_nat l i hi
    have hw : wrap64 ((i : Int) + 1) = ((i + 1 : Nat) : Int) := w64_succ (by omega)
    rw [drop_cons l i hi]
    unfold hasB
    by_cases h0 : l[i] = a
    · rw [if_pos h0]
      exact ⟨(i : Int), Ev.step (fun k => by simp only [slices_Index_int64_int64.l0, hr, hw]; rfl) (Ev.pos (by omega) (Ev.pos (by omega) (Ev.pos (by omega) (Ev.pos h0.symm (Ev.now _))))), decide_eq_true (by omega)⟩
    · rw [if_neg h0]
      obtain ⟨v, h1, h2⟩ := ih (i + 1) (by omega)
      have h0' : ¬ a = l[i] := fun e => h0 e.symm
      exact ⟨v, Ev.step (fun k => by simp only [slices_Index_int64_int64.l0, hr, hw]; rfl) (Ev.pos (by omega) (Ev.pos (by omega) (Ev.pos (by omega) (Ev.neg h0' h1)))), h2⟩
theorem ContainsI_ev (l : List Int) (a : Int) (hl : l.length ≤ 1000) : Ev (fun k => slices_Contains_int64_int64.f k l a) (hasB a l) := by
  obtain ⟨v, h1, h2⟩ := IndexI_l0 l a hl l.length 0 (by omega)
  rw [List.drop_zero] at h2
  rw [← h2]
  unfold slices_Contains_int64_int64.f slices_Index_int64_int64.f
  exact Ev.bind h1 (Ev.now _)
def addrsF (i : Nat) (l : List Int) : List Int → Int
  | [] => 0
  | a :: t => if inB a 1 255 = true then (if hasB a (l.take i) = true then 6 else addrsF (i + 1) l t) else 3
def initF (a0 a1 : Int) (l2 l3 l4 : List Int) : Int := if inB a0 1 4294967295 = true then (if isWd a1 = true then (if l2.length = 16 then (if 1 ≤ l3.length ∧ l3.length ≤ 5 then (if addrsF 0 l3 l3 = 0 then (if l4.length > 100 then 2 else 0) else addrsF 0 l3 l3) else 2) else 2) else 3) else 3
theorem initF_zero {a0 a1 : Int} {l2 l3 l4 : List Int} (h : initF a0 a1 l2 l3 l4 = 0) : Wd a0 ∧ Wd a1 ∧ l2.length = 16 ∧ l3.length ≤ 5 ∧ l4.length ≤ 100 := by
  unfold initF at h
  by_cases h0 : inB a0 1 4294967295 = true
  · rw [if_pos h0] at h
    by_cases h1 : isWd a1 = true
    · rw [if_pos h1] at h
      by_cases h2 : l2.length = 16
      · rw [if_pos h2] at h
        by_cases h3 : 1 ≤ l3.length ∧ l3.length ≤ 5
        · rw [if_pos h3] at h
          by_cases h4 : addrsF 0 l3 l3 = 0
          · rw [if_pos h4] at h
            by_cases h5 : l4.length > 100
            · rw [if_pos h5] at h; exact absurd h (by decide)
            · obtain ⟨q0, q1⟩ := inB_true.1 h0
              exact ⟨⟨by omega, by omega⟩, isWd_true.1 h1, h2, h3.2, by omega⟩
          · rw [if_neg h4] at h; exact absurd h h4
        · rw [if_neg h3] at h; exact absurd h (by decide)
      · rw [if_neg h2] at h; exact absurd h (by decide)
    · rw [if_neg h1] at h; exact absurd h (by decide)
  · rw [if_neg h0] at h; exact absurd h (by decide)
theorem l5Addrs_l0 (l : List Int) (hl : l.length ≤ 1000) (d : Nat) : ∀ i : Nat, i + d = l.length → Ev (fun k => spec_l5Addrs.l0 k l (i : Int)) (addrsF i l (l.drop i)) := by
  induction d with
  | zero =>
    intro i h
    refine Ev.ret fun k => ?_
    simp only [spec_l5Addrs.l0]
    rw [if_neg (by omega), List.drop_of_length_le (by omega)]; rfl
  | succ d ih =>
    intro i h
    have hi : i < l.length := by omega
    have hr : rd l (i : Int) = l[i] := rd_nat l i hi
    have hw : wrap64 ((i : Int) + 1) = ((i + 1 : Nat) : Int) := w64_succ (by omega)
    rw [drop_cons l i hi]
    refine Ev.step (fun k => by simp only [spec_l5Addrs.l0, l5Addr_eq, Option.bind_some, hr, hw, Int.toNat_natCast]; rfl) (Ev.pos (by omega) (Ev.pos (by omega) ?_))
    unfold addrsF
    by_cases h0 : inB l[i] 1 255 = true
    · rw [if_pos h0]
      refine Ev.pos h0 (Ev.pos (by omega) (Ev.bind (l1Has_ev (l.take i) l[i] (by rw [List.length_take]; omega)) ?_))
      by_cases h1 : hasB l[i] (l.take i) = true
      · rw [if_pos h1]; exact Ev.pos h1 (Ev.now _)
      · rw [if_neg h1]; exact Ev.neg h1 (ih (i + 1) (by omega))
    · rw [if_neg h0]; exact Ev.neg h0 (Ev.now _)
theorem l5Addrs_ev (l : List Int) (hl : l.length ≤ 1000) : Ev (fun k => spec_l5Addrs.f k l) (addrsF 0 l l) := by
  unfold spec_l5Addrs.f
  exact l5Addrs_l0 l hl l.length 0 (by omega)
theorem addrsCode_l0 (l : List Int) (hl : l.length ≤ 1000) (d : Nat) : ∀ i : Nat, i + d = l.length → Ev (fun k => impl_addrsCode.l0 k l l (l.length : Int) (i : Int)) (addrsF i l (l.drop i)) := by
  induction d with
  | zero =>
    intro i h
    refine Ev.ret fun k => ?_
    simp only [impl_addrsCode.l0]
    rw [if_neg (by omega), List.drop_of_length_le (by omega)]; rfl
  | succ d ih =>
    intro i h
    have hi : i < l.length := by omega
    have hr : rd l (i : Int) = l[i] := rd_nat l i hi
    have hw : wrap64 ((i : Int) + 1) = ((i + 1 : Nat) : Int) := w64_succ (by omega)
    rw [drop_cons l i hi]
    refine Ev.step (fun k => by simp only [impl_addrsCode.l0, isAddr_eq, Option.bind_some, hr, hw, Int.toNat_natCast]; rfl) (Ev.pos (by omega) (Ev.pos (by omega) (Ev.pos (by omega) ?_)))
    unfold addrsF
    by_cases h0 : inB l[i] 1 255 = true
    · rw [if_pos h0]
      refine Ev.pos h0 (Ev.pos (by omega) (Ev.bind (ContainsI_ev (l.take i) l[i] (by rw [List.length_take]; omega)) ?_))
      by_cases h1 : hasB l[i] (l.take i) = true
      · rw [if_pos h1]; exact Ev.pos h1 (Ev.now _)
      · rw [if_neg h1]; exact Ev.neg h1 (ih (i + 1) (by omega))
    · rw [if_neg h0]; exact Ev.neg h0 (Ev.now _)
theorem addrsCode_ev (l : List Int) (hl : l.length ≤ 1000) : Ev (fun k => impl_addrsCode.f k l) (addrsF 0 l l) := by
  unfold impl_addrsCode.f
  exact addrsCode_l0 l hl l.length 0 (by omega)
theorem l5InitFault_j1 (a0 a1 : Int) (l2 l3 l4 : List Int) (hl : l3.length ≤ 1000) : Ev (fun k => spec_l5InitFault.j1 k false a0 a1 l2 l3 l4) (if addrsF 0 l3 l3 = 0 then (if l4.length > 100 then 2 else 0) else addrsF 0 l3 l3) := by
  refine Ev.step (fun k => by simp only [spec_l5InitFault.j1]; rfl) (Ev.neg (by decide) (Ev.bind (l5Addrs_ev l3 hl) ?_))
  by_cases h : addrsF 0 l3 l3 = 0
  · simp only [if_pos h]
    by_cases h1 : l4.length > 100
    · rw [if_pos h1]; exact Ev.pos (by omega) (Ev.now _)
    · rw [if_neg h1]; exact Ev.neg (by omega) (Ev.now _)
  · simp only [if_neg h]; exact Ev.now _
theorem l5InitFault_j1t (a0 a1 : Int) (l2 l3 l4 : List Int) : Ev (fun k => spec_l5InitFault.j1 k true a0 a1 l2 l3 l4) 2 := Ev.ret fun k => by simp only [spec_l5InitFault.j1, if_true]
theorem l5InitFault_j0t (a0 a1 : Int) (l2 l3 l4 : List Int) : Ev (fun k => spec_l5InitFault.j0 k true a0 a1 l2 l3 l4) 3 := Ev.ret fun k => by simp only [spec_l5InitFault.j0, if_true]
theorem l5InitFault_j0 (a0 a1 : Int) (l2 l3 l4 : List Int) : Ev (fun k => spec_l5InitFault.j0 k false a0 a1 l2 l3 l4) (if l2.length = 16 then (if 1 ≤ l3.length ∧ l3.length ≤ 5 then (if addrsF 0 l3 l3 = 0 then (if l4.length > 100 then 2 else 0) else addrsF 0 l3 l3) else 2) else 2) := by
  refine Ev.step (fun k => by simp only [spec_l5InitFault.j0]; rfl) (Ev.neg (by decide) ?_)
  by_cases h2 : l2.length = 16
  · rw [if_pos h2]
    refine Ev.pos (by omega) ?_
    by_cases h3 : (l3.length : Int) < 1
    · rw [if_neg (by omega)]; exact Ev.pos h3 (l5InitFault_j1t a0 a1 l2 l3 l4)
    · refine Ev.neg h3 ?_
      by_cases h4 : (l3.length : Int) > 5
      · rw [if_neg (by omega), decide_eq_true h4]; exact l5InitFault_j1t a0 a1 l2 l3 l4
      · rw [if_pos (by omega), decide_eq_false h4]; exact l5InitFault_j1 a0 a1 l2 l3 l4 (by omega)
  · rw [if_neg h2]
    exact Ev.neg (by omega) (l5InitFault_j1t a0 a1 l2 l3 l4)
theorem l5InitFault_ev (a0 a1 : Int) (l2 l3 l4 : List Int) : Ev (fun k => spec_l5InitFault.f k a0 a1 l2 l3 l4) (initF a0 a1 l2 l3 l4) := by
  unfold spec_l5InitFault.f initF
  simp only [l1In_eq, l1Word32_eq, Option.bind_some]
  by_cases h0 : inB a0 1 4294967295 = true
  · rw [if_pos h0]
    refine Ev.pos h0 ?_
    by_cases h1 : isWd a1 = true
    · rw [if_pos h1, h1]; exact l5InitFault_j0 a0 a1 l2 l3 l4
    · rw [if_neg h1, Bool.eq_false_iff.2 h1]; exact l5InitFault_j0t a0 a1 l2 l3 l4
  · rw [if_neg h0]
    exact Ev.neg h0 (l5InitFault_j0t a0 a1 l2 l3 l4)
theorem initCode_j0t (a0 a1 : Int) (l2 l3 l4 : List Int) : Ev (fun k => impl_initCode.j0 k true a0 a1 l2 l3 l4) 3 := Ev.ret fun k => by simp only [impl_initCode.j0, if_true]
theorem initCode_j0 (a0 a1 : Int) (l2 l3 l4 : List Int) : Ev (fun k => impl_initCode.j0 k false a0 a1 l2 l3 l4) (if l2.length = 16 then (if 1 ≤ l3.length ∧ l3.length ≤ 5 then (if addrsF 0 l3 l3 = 0 then (if l4.length > 100 then 2 else 0) else addrsF 0 l3 l3) else 2) else 2) := by
  refine Ev.step (fun k => by simp only [impl_initCode.j0, within_eq, Option.bind_some]; rfl) (Ev.neg (by decide) ?_)
  by_cases h2 : l2.length = 16
  · rw [if_pos h2]
    refine Ev.pos (by omega) ?_
    by_cases h3 : 1 ≤ l3.length ∧ l3.length ≤ 5
    · rw [if_pos h3]
      refine Ev.pos (inB_true.2 (by omega)) (Ev.bind (addrsCode_ev l3 (by omega)) ?_)
      by_cases h : addrsF 0 l3 l3 = 0
      · simp only [if_pos h]
        by_cases h1 : l4.length > 100
        · rw [if_pos h1]; exact Ev.pos (by omega) (Ev.now _)
        · rw [if_neg h1]; exact Ev.neg (by omega) (Ev.now _)
      · simp only [if_neg h]; exact Ev.now _
    · rw [if_neg h3]; exact Ev.neg (fun h => h3 (by have := inB_true.1 h; omega)) (Ev.now _)
  · rw [if_neg h2]; exact Ev.neg (by omega) (Ev.now _)
theorem initCode_w (a0 a1 : Int) (l2 l3 l4 : List Int) : Ev (fun k => if inB a0 1 4294967295 = true then (impl_initCode.j0 k (!isWd a1) a0 a1 l2 l3 l4) else (impl_initCode.j0 k true a0 a1 l2 l3 l4)) (initF a0 a1 l2 l3 l4) := by
  unfold initF
  by_cases h0 : inB a0 1 4294967295 = true
  · rw [if_pos h0]
    refine Ev.pos h0 ?_
    by_cases h1 : isWd a1 = true
    · rw [if_pos h1, h1]; exact initCode_j0 a0 a1 l2 l3 l4
    · rw [if_neg h1, Bool.eq_false_iff.2 h1]; exact initCode_j0t a0 a1 l2 l3 l4
  · rw [if_neg h0]
    exact Ev.neg h0 (initCode_j0t a0 a1 l2 l3 l4)
theorem initCode_ev (a0 a1 : Int) (l2 l3 l4 : List Int) (kind : Int) : Ev (fun k => impl_initCode.f k a0 a1 l2 l3 l4 kind) (if kind = 1 ∨ kind = 2 then initF a0 a1 l2 l3 l4 else 3) := by
  unfold impl_initCode.f
  simp only [within_eq, isWord_eq, Option.bind_some]
  by_cases h1 : kind = 1
  · rw [if_pos (Or.inl h1)]; exact Ev.pos h1 (initCode_w a0 a1 l2 l3 l4)
  · refine Ev.neg h1 ?_
    by_cases h2 : kind = 2
    · rw [if_pos (Or.inr h2)]; exact Ev.pos h2 (initCode_w a0 a1 l2 l3 l4)
    · rw [if_neg (by omega)]; exact Ev.neg h2 (initCode_j0t a0 a1 l2 l3 l4)
theorem szInit_ev (a0 a1 : Int) (l2 l3 l4 : List Int) (h2 : l2.length ≤ 9223372036854775807) (h3 : l3.length ≤ 9223372036854775807) (h4 : l4.length ≤ 9223372036854775807) : ∃ v, laws_szInit.f a0 a1 l2 l3 l4 1048576 = some v ∧ (v < 0 ∨ 0 ≤ v ∧ l2.length ≤ 1048576 ∧ l3.length ≤ 1048576 ∧ l4.length ≤ 1048576) := by
  unfold laws_szInit.f
  by_cases b2 : (1048576 : Int) < (l2.length : Int)
  · exact ⟨-1, by rw [szByteS_big h2 (by omega) (by omega) b2]; rfl, .inl (by omega)⟩
  rw [szByteS_ok (by omega) (by omega)]; simp only [Option.bind_some]
  rw [if_neg (by omega)]
  by_cases b3 : 1048576 - (l2.length : Int) < (l3.length : Int)
  · exact ⟨-1, by rw [szInt64S_big h3 (by omega) (by omega) b3]; rfl, .inl (by omega)⟩
  rw [szInt64S_ok (by omega) (by omega)]; simp only [Option.bind_some]
  rw [if_neg (by omega)]
  by_cases b4 : 1048576 - (l2.length : Int) - (l3.length : Int) < (l4.length : Int)
  · exact ⟨-1, by rw [szByteS_big h4 (by omega) (by omega) b4]; rfl, .inl (by omega)⟩
  rw [szByteS_ok (by omega) (by omega)]; simp only [Option.bind_some]
  rw [if_neg (by omega)]
  exact ⟨_, rfl, .inr ⟨by omega, by omega, by omega, by omega⟩⟩
theorem toInit_ev (a0 a1 : Int) (l2 l3 l4 : List Int) (h2 : l2.length ≤ 1048576) (h3 : l3.length ≤ 1048576) (h4 : l4.length ≤ 1048576) : Ev (fun k => laws_toInit.f k a0 a1 l2 l3 l4) (a0, a1, l2, l3, l4) := by
  unfold laws_toInit.f
  exact Ev.bind (toByteS_ev l2 (by omega)) (Ev.bind (toInt64S_ev l3 (by omega)) (Ev.bind (toByteS_ev l4 (by omega)) (Ev.now _)))
theorem eqInit_self (a0 a1 : Int) (l2 l3 l4 : List Int) (h2 : l2.length ≤ 1048576) (h3 : l3.length ≤ 1048576) (h4 : l4.length ≤ 1048576) : Ev (fun k => laws_eqInit.f k a0 a1 l2 l3 l4 a0 a1 l2 l3 l4) true := by
  unfold laws_eqInit.f
  exact Ev.pos rfl (Ev.pos rfl (Ev.bind (eqByteS_self l2 (by omega)) (Ev.pos rfl (Ev.bind (eqInt64S_self l3 (by omega)) (Ev.pos rfl (Ev.bind (eqByteS_self l4 (by omega)) (Ev.pos rfl (Ev.now _))))))))
theorem markInit_ev (a0 a1 : Int) (l2 l3 l4 : List Int) (h2 : l2.length ≤ 1048576) (h3 : l3.length ≤ 1048576) (h4 : l4.length ≤ 1048576) : ∃ v x y z, Ev (fun k => laws_markInit.f k a0 a1 l2 l3 l4 1) (v, x, y, z) ∧ 0 ≤ v := by
  unfold laws_markInit.f
  exact ⟨_, _, _, _, Ev.bind (markByteS_ev l2 (by omega) 1 (by omega) (by omega)) (Ev.bind (markInt64S_ev l3 (by omega) (1 + l2.length) (by omega) (by omega)) (Ev.bind (markByteS_ev l4 (by omega) (1 + l2.length + l3.length) (by omega) (by omega)) (Ev.now _))), by omega⟩
def vecR (a0 a1 : Int) (l2 l3 l4 : List Int) : Int × List Int := if initF a0 a1 l2 l3 l4 = 0 then (0, pack4 a0 ++ l2) else (initF a0 a1 l2 l3 l4, [])
theorem vecR_len (a0 a1 : Int) (l2 l3 l4 : List Int) : (vecR a0 a1 l2 l3 l4).2.length ≤ 20 := by
  unfold vecR
  by_cases h : initF a0 a1 l2 l3 l4 = 0
  · rw [if_pos h]; have := (initF_zero h).2.2.1; show (pack4 a0 ++ l2).length ≤ 20; simp [pack4]; omega
  · rw [if_neg h]; exact Nat.zero_le _
def initBody (a0 a1 : Int) (l2 l3 l4 : List Int) : List Int := pack4 a0 ++ pack4 a1 ++ l2 ++ ([(l3.length : Int) % 256] ++ l3.map fun n => n % 256) ++ [(l4.length : Int) % 256] ++ l4
def initG (a0 a1 : Int) (l2 l3 l4 : List Int) (kind : Int) : Int := if kind = 1 ∨ kind = 2 then initF a0 a1 l2 l3 l4 else 3
def initR (a0 a1 : Int) (l2 l3 l4 : List Int) (kind : Int) : Int × Int × Int × List Int := if initG a0 a1 l2 l3 l4 kind = 0 then (0, kind, 0, initBody a0 a1 l2 l3 l4) else (initG a0 a1 l2 l3 l4 kind, 0, 0, [])
theorem initBody_len (a0 a1 : Int) (l2 l3 l4 : List Int) : (initBody a0 a1 l2 l3 l4).length = 10 + l2.length + l3.length + l4.length := by simp [initBody, pack4]; omega
theorem initG_zero {a0 a1 : Int} {l2 l3 l4 : List Int} {kind : Int} (h : initG a0 a1 l2 l3 l4 kind = 0) : (kind = 1 ∨ kind = 2) ∧ Wd a0 ∧ Wd a1 ∧ l2.length = 16 ∧ l3.length ≤ 5 ∧ l4.length ≤ 100 := by
  unfold initG at h
  by_cases hk : kind = 1 ∨ kind = 2
  · rw [if_pos hk] at h; exact ⟨hk, initF_zero h⟩
  · rw [if_neg hk] at h; exact absurd h (by decide)
theorem initR_len (a0 a1 : Int) (l2 l3 l4 : List Int) (kind : Int) : (initR a0 a1 l2 l3 l4 kind).2.2.2.length ≤ 131 := by
  unfold initR
  by_cases h : initG a0 a1 l2 l3 l4 kind = 0
  · rw [if_pos h]; obtain ⟨_, _, _, q2, q3, q4⟩ := initG_zero h; show (initBody a0 a1 l2 l3 l4).length ≤ 131; rw [initBody_len]; omega
  · rw [if_neg h]; exact Nat.zero_le _
theorem l5Init_ev {a0 a1 : Int} {l2 l3 l4 : List Int} (kind : Int) (h0 : Wd a0) (h1 : Wd a1) (h2 : l2.length = 16) (h3 : l3.length ≤ 5) (h4 : l4.length ≤ 100) : Ev (fun k => spec_l5Init.f k a0 a1 l2 l3 l4 kind) (kind, 0, initBody a0 a1 l2 l3 l4) := by
  unfold spec_l5Init.f
  rw [l1Pack_eq h0, l1Pack_eq h1]
  simp only [Option.bind_some]
  refine Ev.pos (by simp [pack4]) (Ev.pos (by simp [pack4]; omega) (Ev.bind (l5Bytes_ev l3 (by omega)) ?_))
  exact Ev.pos (by simp [pack4]; omega) (Ev.pos (by simp [pack4]; omega) (Ev.pos (by simp [pack4]; omega) (Ev.now _)))
theorem specPackInit_j0 (a0 a1 : Int) (l2 l3 l4 : List Int) {kind : Int} (hk : kind = 1 ∨ kind = 2) : Ev (fun k => spec_PackInit.j0 k kind false a0 a1 l2 l3 l4) (initR a0 a1 l2 l3 l4 kind) := by
  have hG : initG a0 a1 l2 l3 l4 kind = initF a0 a1 l2 l3 l4 := by unfold initG; rw [if_pos hk]
  unfold initR
  rw [hG]
  refine Ev.step (fun k => by simp only [spec_PackInit.j0, l5Bad_eq, Option.bind_some]; rfl) (Ev.neg (by decide) (Ev.bind (l5InitFault_ev a0 a1 l2 l3 l4) ?_))
  by_cases h : initF a0 a1 l2 l3 l4 = 0
  · rw [if_pos h]
    obtain ⟨h0, h1, h2, h3, h4⟩ := initF_zero h
    exact Ev.pos h (Ev.bind (l5Init_ev kind h0 h1 h2 h3 h4) (Ev.now _))
  · rw [if_neg h]
    exact Ev.neg h (Ev.now _)
theorem specPackInit_ev (a0 a1 : Int) (l2 l3 l4 : List Int) (kind : Int) : Ev (fun k => spec_PackInit.f k a0 a1 l2 l3 l4 kind) (initR a0 a1 l2 l3 l4 kind) := by
  unfold spec_PackInit.f
  by_cases h1 : kind = 1
  · exact Ev.pos h1 (specPackInit_j0 a0 a1 l2 l3 l4 (.inl h1))
  · refine Ev.neg h1 ?_
    by_cases h2 : kind = 2
    · have e : (kind != 2) = false := by rw [h2]; rfl
      rw [e]; exact specPackInit_j0 a0 a1 l2 l3 l4 (.inr h2)
    · have e : (kind != 2) = true := bne_iff_ne.2 h2
      have hR : initR a0 a1 l2 l3 l4 kind = (3, 0, 0, []) := by
        have hG : initG a0 a1 l2 l3 l4 kind = 3 := by unfold initG; rw [if_neg (by omega)]
        unfold initR; rw [hG, if_neg (by decide)]
      rw [e, hR]
      exact Ev.ret fun k => by simp only [spec_PackInit.j0, if_true, l5Bad_eq, Option.bind_some]
theorem implPackInit_ev (a0 a1 : Int) (l2 l3 l4 : List Int) (kind : Int) : Ev (fun k => impl_PackInit.f k a0 a1 l2 l3 l4 kind) (initR a0 a1 l2 l3 l4 kind) := by
  have hc : Ev (fun k => impl_initCode.f k a0 a1 l2 l3 l4 kind) (initG a0 a1 l2 l3 l4 kind) := initCode_ev a0 a1 l2 l3 l4 kind
  unfold impl_PackInit.f initR
  refine Ev.bind hc ?_
  by_cases h : initG a0 a1 l2 l3 l4 kind = 0
  · rw [if_pos h]
    obtain ⟨_, h0, h1, h2, h3, h4⟩ := initG_zero h
    have e : [pack4 a0, pack4 a1, l2, [(l3.length : Int) % 256], l3.map (fun n => n % 256), [(l4.length : Int) % 256], l4].flatten = initBody a0 a1 l2 l3 l4 := by
      simp only [List.flatten_cons, List.flatten_nil, List.append_nil, List.append_assoc, initBody]
    have hk := chunk_ev kind 0 [pack4 a0, pack4 a1, l2, [(l3.length : Int) % 256], l3.map (fun n => n % 256), [(l4.length : Int) % 256], l4] (by simp) (by rw [e, initBody_len]; omega)
    rw [e] at hk
    simp only [four_eq, Option.bind_some]
    exact Ev.pos h (Ev.bind (bytesOf_ev l3 (by omega)) (Ev.bind hk (Ev.now _)))
  · rw [if_neg h]
    exact Ev.neg h (Ev.now _)
theorem FnExactPackInit : laws_FnExactPackInit.Pure := by
  intro a0 a1 l2 l3 l4 kind _ _ w2 w3 w4 _
  have hr := initR_len a0 a1 l2 l3 l4 kind
  apply Ev.rounds
  unfold laws_FnExactPackInit.f
  obtain ⟨v, hv, h⟩ := szInit_ev a0 a1 l2 l3 l4 w2.1 w3.1 w4.1
  rcases h with h | ⟨h0, h2, h3, h4⟩
  · exact Ev.bind (Ev.all fun _ => hv) (Ev.pos h (Ev.now _))
  have hT := toInit_ev a0 a1 l2 l3 l4 h2 h3 h4
  have hI := implPackInit_ev a0 a1 l2 l3 l4 kind
  obtain ⟨m, x, y, z, hM, hm⟩ := markInit_ev a0 a1 l2 l3 l4 h2 h3 h4
  refine Ev.bind (Ev.all fun _ => hv) (Ev.neg (by omega) (Ev.bind hT (Ev.bind (specPackInit_ev a0 a1 l2 l3 l4 kind) (Ev.bind hT (Ev.bind hI (Ev.bind (eqChunkResult_self _ _ _ _ (by omega)) (Ev.pos rfl ?_)))))))
  refine Ev.bind hT (Ev.bind (eqInit_self a0 a1 l2 l3 l4 h2 h3 h4) (Ev.pos rfl ?_))
  refine Ev.bind hM (Ev.neg (by omega) (Ev.bind (eqChunkResult_self _ _ _ _ (by omega)) ?_))
  refine Ev.step (fun k => by simp only [laws_FnExactPackInit.j0]; rfl) (Ev.neg (by decide) ?_)
  refine Ev.bind (markChunkResult_ev _ _ _ _ (by omega)) (Ev.bind (heldChunkResult_ev _ _ _ _ (by omega)) (Ev.neg (by omega) (Ev.pos rfl ?_)))
  refine Ev.bind hT (Ev.bind hI (Ev.bind (eqChunkResult_self _ _ _ _ (by omega)) (Ev.pos rfl ?_)))
  exact Ev.bind (heldChunkResult_ev _ _ _ _ (by omega)) (Ev.neg (by omega) (Ev.pos rfl (Ev.now _)))
end FnExactPackInit_
theorem FnExactPackInit : laws_FnExactPackInit.Pure := FnExactPackInit_.FnExactPackInit
end Go.Proofs.Ytacfebnfdmbkaaa.Pure
