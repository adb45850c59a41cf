/- The pure statement of FnExactJoinKey: what the printed functions of the program and of the reference compute makes the law answer true, for all arguments (each number of its kind). -/
import Derived.Test.YtacfebnfdmbkaaaPFnExactJoinKeyx3
import Derived.Test.YtacfebnfdmbkaaaBase
import Derived.Test.YtacfebnfdmbkaaaSz
set_option linter.unusedVariables false
set_option linter.unusedSimpArgs false
namespace Go.Proofs.Ytacfebnfdmbkaaa.Pure
open Go.RowKit Go.Proofs.Ytacfebnfdmbkaaa.PFnExactJoinKey Go.Proofs.YtacfebnfdmbkaaaW.PrintWords Go.Proofs.YtacfebnfdmbkaaaW.PrintLast Go.Proofs.YtacfebnfdmbkaaaW.PrintMore Go.Proofs.Ytacfebnfdmbkaaa.Base
namespace FnExactJoinKey_
theorem toByteS_l0 (l : List Int) (hl : l.length ≤ 281474976710656) (d : Nat) : ∀ (i : Nat) (x : List Int), i + d = l.length → x.length = l.length → x.take i = l.take i → Ev (fun k => laws_toByteS.l0 k l x (i : Int)) l := by
  induction d with
  | zero =>
    intro i x h hx ht
    have e : x = l := by
      rw [List.take_of_length_le (by omega), List.take_of_length_le (by omega)] at ht
      exact ht
    subst e
    exact Ev.ret fun k => by simp only [laws_toByteS.l0]; rw [if_neg (by omega)]
  | succ d ih =>
    intro i x h hx ht
    have hi : i < l.length := by omega
    refine Ev.step (f := fun k => laws_toByteS.l0 k l (x.set i l[i]) ((i + 1 : Nat) : Int)) (fun k => ?_) ?_
    · simp only [laws_toByteS.l0]
      rw [if_pos (by omega), if_pos (by omega), if_pos (by omega), rd_nat l i hi, w64 (by omega) (by omega)]
      simp only [Int.toNat_natCast]; rfl
    · refine ih (i + 1) _ (by omega) (by rw [List.length_set]; exact hx) ?_
      rw [List.take_succ_eq_append_getElem (by rw [List.length_set]; omega), List.take_succ_eq_append_getElem hi, List.getElem_set_self, List.take_set_of_le (by omega), ht]
theorem toByteS_ev (l : List Int) (hl : l.length ≤ 281474976710656) : Ev (fun k => laws_toByteS.f k l) l := by
  unfold laws_toByteS.f
  simp only [if_pos (show (0 : Int) ≤ (l.length : Int) by omega), if_pos (show ((l.length : Int) : Int).toNat ≤ 281474976710656 by omega)]
  exact toByteS_l0 l hl l.length 0 _ (by omega) (by simp) (by simp)
theorem eqByteS_l0 (l : List Int) (hl : l.length ≤ 4611686018427387904) (d : Nat) : ∀ i : Nat, i + d = l.length → Ev (fun k => laws_eqByteS.l0 k l l (i : Int)) true := by
  induction d with
  | zero =>
    intro i h
    exact Ev.ret fun k => by simp only [laws_eqByteS.l0]; rw [if_neg (by omega)]
  | succ d ih =>
    intro i h
    refine Ev.step (f := fun k => laws_eqByteS.l0 k l l ((i + 1 : Nat) : Int)) (fun k => ?_) (ih (i + 1) (by omega))
    simp only [laws_eqByteS.l0]
    rw [if_pos (by omega), if_pos (by omega), if_pos (by omega), if_pos (by trivial), w64 (by omega) (by omega)]; rfl
theorem eqByteS_self (l : List Int) (hl : l.length ≤ 4611686018427387904) : Ev (fun k => laws_eqByteS.f k l l) true := by
  unfold laws_eqByteS.f
  simp only [if_true]
  exact eqByteS_l0 l hl l.length 0 (by omega)
theorem eqBytesResult_self (c : Int) (l : List Int) (hl : l.length ≤ 4611686018427387904) : Ev (fun k => laws_eqBytesResult.f k c l c l) true := by
  unfold laws_eqBytesResult.f
  simp only [if_true]
  refine Ev.bind (eqByteS_self l hl) ?_
  simp only [if_true]
  exact Ev.now _
theorem markByteS_l0 (n : Nat) (hn : n ≤ 281474976710656) (a : Int) (ha : 0 ≤ a) (ha1 : a ≤ 4611686018427387904) (d : Nat) : ∀ (i : Nat) (x : List Int), i + d = n → x.length = n → x.take i = mks a i → Ev (fun k => laws_markByteS.l0 k x (a + i) (i : Int)) (a + n, mks a n) := by
  induction d with
  | zero =>
    intro i x h hx ht
    have e : x = mks a n := by
      rw [show i = n by omega, List.take_of_length_le (by omega)] at ht
      exact ht
    obtain rfl : i = n := by omega
    subst e
    exact Ev.ret fun k => by simp only [laws_markByteS.l0]; rw [if_neg (by rw [mks_length]; omega)]
  | succ d ih =>
    intro i x h hx ht
    have hi : i < x.length := by omega
    refine Ev.step (f := fun k => laws_markByteS.l0 k (x.set i ((a + i) % 256)) (a + ((i + 1 : Nat) : Int)) ((i + 1 : Nat) : Int)) (fun k => ?_) (ih (i + 1) _ (by omega) (by rw [List.length_set]; exact hx) ?_)
    · simp only [laws_markByteS.l0]
      rw [if_pos (by omega), if_pos (by omega), w64 (x := (i : Int) + 1) (by omega) (by omega), w64 (x := a + i + 1) (by omega) (by omega)]
      simp only [Int.toNat_natCast]
      have : a + (i : Int) + 1 = a + ((i + 1 : Nat) : Int) := by omega
      rw [this]; rfl
    · rw [List.take_succ_eq_append_getElem (by rw [List.length_set]; omega), List.getElem_set_self, List.take_set_of_le (by omega), ht, mks_snoc]
theorem markByteS_ev (l : List Int) (hl : l.length ≤ 281474976710656) (a : Int) (ha : 0 ≤ a) (ha1 : a ≤ 4611686018427387904) : Ev (fun k => laws_markByteS.f k l a) (a + l.length, mks a l.length) := by
  have h := markByteS_l0 l.length hl a ha ha1 l.length 0 l (by omega) rfl rfl
  unfold laws_markByteS.f
  simpa only [Int.natCast_zero, Int.add_zero] using h
theorem heldByteS_l0 (n : Nat) (hn : n ≤ 281474976710656) (a : Int) (ha : 0 ≤ a) (ha1 : a ≤ 4611686018427387904) (d : Nat) : ∀ (i : Nat), i + d = n → Ev (fun k => laws_heldByteS.l0 k (mks a n) (a + i) (i : Int)) (a + n) := by
  induction d with
  | zero =>
    intro i h
    obtain rfl : i = n := by omega
    exact Ev.ret fun k => by simp only [laws_heldByteS.l0]; rw [if_neg (by rw [mks_length]; omega)]
  | succ d ih =>
    intro i h
    refine Ev.step (f := fun k => laws_heldByteS.l0 k (mks a n) (a + ((i + 1 : Nat) : Int)) ((i + 1 : Nat) : Int)) (fun k => ?_) (ih (i + 1) (by omega))
    simp only [laws_heldByteS.l0]
    rw [if_pos (by rw [mks_length]; omega), if_pos (by omega), rd_nat _ i (by rw [mks_length]; omega), mks_get a n i (by omega), if_pos rfl, w64 (x := (i : Int) + 1) (by omega) (by omega), w64 (x := a + i + 1) (by omega) (by omega)]
    have : a + (i : Int) + 1 = a + ((i + 1 : Nat) : Int) := by omega
    rw [this]; rfl
theorem heldByteS_ev (n : Nat) (hn : n ≤ 281474976710656) (a : Int) (ha : 0 ≤ a) (ha1 : a ≤ 4611686018427387904) : Ev (fun k => laws_heldByteS.f k (mks a n) a) (a + n) := by
  have h := heldByteS_l0 n hn a ha ha1 n 0 (by omega)
  unfold laws_heldByteS.f
  simpa only [Int.natCast_zero, Int.add_zero] using h
theorem markBytesResult_ev (c : Int) (l : List Int) (hl : l.length ≤ 281474976710656) : Ev (fun k => laws_markBytesResult.f k c l 1) (1 + l.length, mks 1 l.length) := by
  unfold laws_markBytesResult.f
  exact Ev.bind (markByteS_ev l hl 1 (by omega) (by omega)) (Ev.now _)
theorem heldBytesResult_ev (c : Int) (n : Nat) (hn : n ≤ 281474976710656) : Ev (fun k => laws_heldBytesResult.f k c (mks 1 n) 1) (1 + n) := by
  unfold laws_heldBytesResult.f
  refine Ev.bind (heldByteS_ev n hn 1 (by omega) (by omega)) ?_
  rw [if_neg (by omega)]
  exact Ev.now _
theorem l1Copy_eq (l : List Int) (h : l.length < 140737488355328) : spec_l1Copy.f l = some l := by
  unfold spec_l1Copy.f
  simp only [Option.bind_some, List.nil_append, List.length_nil]
  rw [if_pos (by omega)]
theorem blk_len {p : List Int} {m n : Nat} (hp : p.length = 64 * m) (hn : n < m) : ((p.take (64 * n + 64)).drop (64 * n)).length = 64 := by
  rw [List.length_drop, List.length_take]; omega
theorem blk_ifs {n m : Nat} (hm : m ≤ 1000) (hn : n < m) : ((64 * n : Nat) : Int) < ((64 * m : Nat) : Int) ∧ 0 ≤ ((64 * n : Nat) : Int) ∧ ((64 * n : Nat) : Int) ≤ ((64 * n + 64 : Nat) : Int) ∧ ((64 * n + 64 : Nat) : Int) ≤ ((64 * m : Nat) : Int) ∧ wrap64 (((64 * n : Nat) : Int) + 64) = ((64 * n + 64 : Nat) : Int) := by
  refine ⟨by omega, by omega, by omega, by omega, ?_⟩
  rw [w64 (by omega) (by omega)]; omega
theorem padded_64 (l : List Int) : (padded l).length = 64 * ((padded l).length / 64) := by
  rw [padded_length]; unfold zerosFor; omega
theorem padded_few {l : List Int} (h : l.length ≤ 700) : (padded l).length / 64 ≤ 1000 := by
  rw [padded_length]; unfold zerosFor; omega
theorem Grow_eq {n : Int} (h0 : 0 ≤ n) (h1 : n ≤ 1000000) : slices_Grow_byte_byte.f [] n = some [] := by
  unfold slices_Grow_byte_byte.f
  rw [if_pos h0, if_pos (by omega)]
def sumLen (xs : List (List Int)) : Nat := xs.flatten.length
theorem rdL1 (xs : List (List Int)) (i : Nat) (h : i < xs.length) : rd_L1 xs (i : Int) = xs[i] := by
  unfold rd_L1; rw [Int.toNat_natCast, List.getD_eq_getElem?_getD, List.getElem?_eq_getElem h]; rfl
theorem Concat_l1 (x0 xs : List (List Int)) (hn : xs.length ≤ 1000) (hs : xs.flatten.length ≤ 1000000) (d : Nat) : ∀ (i : Nat) (acc : List Int), i + d = xs.length → acc.length + ((xs.drop i).flatten).length ≤ 1000000 → Ev (fun k => slices_Concat_byte_byte.l1 k acc xs (xs.length : Int) (i : Int)) (acc ++ (xs.drop i).flatten) := by
  induction d with
  | zero =>
    intro i acc h ha
    refine Ev.ret fun k => ?_
    simp only [slices_Concat_byte_byte.l1]
    rw [if_neg (by omega), List.drop_of_length_le (by omega)]
    simp
  | succ d ih =>
    intro i acc h ha
    have hi : i < xs.length := by omega
    have hr : rd_L1 xs (i : Int) = xs[i] := rdL1 xs i hi
    have hw : wrap64 ((i : Int) + 1) = ((i + 1 : Nat) : Int) := w64_succ (by omega)
    have e : (xs.drop i).flatten = xs[i] ++ (xs.drop (i + 1)).flatten := by rw [drop_cons xs i hi, List.flatten_cons]
    have hl : (xs.drop i).flatten.length = xs[i].length + (xs.drop (i + 1)).flatten.length := by rw [e, List.length_append]
    rw [e, ← List.append_assoc]
    refine Ev.step (fun k => by simp only [slices_Concat_byte_byte.l1, hr, hw]; rfl) ?_
    exact Ev.pos (by omega) (Ev.pos (by omega) (Ev.pos (by omega) (Ev.pos (by omega) (ih (i + 1) (acc ++ xs[i]) (by omega) (by rw [List.length_append]; omega)))))
theorem Concat_l0 (xs : List (List Int)) (hn : xs.length ≤ 1000) (hs : xs.flatten.length ≤ 1000000) (d : Nat) : ∀ (i s : Nat), i + d = xs.length → s + ((xs.drop i).flatten).length ≤ 1000000 → Ev (fun k => slices_Concat_byte_byte.l0 k xs (s : Int) xs (xs.length : Int) (i : Int)) xs.flatten := by
  induction d with
  | zero =>
    intro i s h ha
    have h1 := Concat_l1 xs xs hn hs xs.length 0 [] (by omega) (by simpa using hs)
    simp only [List.drop_zero, List.nil_append] at h1
    refine Ev.step (fun k => by simp only [slices_Concat_byte_byte.l0, Grow_eq (n := (s : Int)) (by omega) (by omega), Option.bind_some]; rfl) (Ev.neg (by omega) h1)
  | succ d ih =>
    intro i s h ha
    have hi : i < xs.length := by omega
    have hr : rd_L1 xs (i : Int) = xs[i] := rdL1 xs i hi
    have hw : wrap64 ((i : Int) + 1) = ((i + 1 : Nat) : Int) := w64_succ (by omega)
    have hl : (xs.drop i).flatten.length = xs[i].length + (xs.drop (i + 1)).flatten.length := by rw [drop_cons xs i hi, List.flatten_cons, List.length_append]
    have hv : wrap64 ((s : Int) + (xs[i].length : Int)) = ((s + xs[i].length : Nat) : Int) := by rw [w64 (by omega) (by omega)]; omega
    refine Ev.step (fun k => by simp only [slices_Concat_byte_byte.l0, hr, hw, hv]; rfl) ?_
    exact Ev.pos (by omega) (Ev.pos (by omega) (Ev.pos (by omega) (Ev.neg (by omega) (ih (i + 1) (s + xs[i].length) (by omega) (by omega)))))
theorem Concat_ev (xs : List (List Int)) (hn : xs.length ≤ 1000) (hs : xs.flatten.length ≤ 1000000) : Ev (fun k => slices_Concat_byte_byte.f k xs) xs.flatten := by
  have h := Concat_l0 xs hn hs xs.length 0 0 (by omega) (by simpa using hs)
  unfold slices_Concat_byte_byte.f
  exact h
theorem less_cmp : ∀ a b : List UInt8, (Op.bytesLess b a = true ↔ Lib.compareBytes a b > 0)
  | [], [] => by simp [Op.bytesLess, Lib.compareBytes]
  | [], y :: b => by simp [Op.bytesLess, Lib.compareBytes]
  | x :: a, [] => by simp [Op.bytesLess, Lib.compareBytes]
  | x :: a, y :: b => by
    have ih := less_cmp a b
    simp only [Op.bytesLess, Lib.compareBytes]
    by_cases h : x < y
    · have h2 : ¬ y < x := UInt8.lt_asymm h
      have h3 : y ≠ x := fun e => by subst e; exact UInt8.lt_irrefl _ h
      simp [h, h2, h3]
    · by_cases h2 : y < x
      · simp [h, h2]
      · have e : x = y := UInt8.le_antisymm (UInt8.not_lt.1 h2) (UInt8.not_lt.1 h)
        subst e
        simp only [if_neg h, beq_self_eq_true, Bool.true_and, decide_eq_false h, Bool.false_or]
        exact ih
def joinL (a b c : List Int) : List Int := if Lib.compareBytes (b.map fun n => n.toNat.toUInt8) (c.map fun n => n.toNat.toUInt8) > 0 then a ++ c ++ b else a ++ b ++ c
theorem joinL_len (a b c : List Int) : (joinL a b c).length = a.length + b.length + c.length := by
  unfold joinL
  split
  · simp only [List.length_append]; omega
  · simp only [List.length_append]
def joinR (a b c : List Int) : Int × List Int := if (a.length : Int) > 40 then (2, []) else (if (b.length : Int) = 20 then (if (c.length : Int) = 20 then (0, joinL a b c) else (2, [])) else (2, []))
theorem joinR_len (a b c : List Int) : (joinR a b c).2.length ≤ 80 := by
  unfold joinR
  split
  · simp
  · split
    · split
      · rw [joinL_len]; omega
      · simp
    · simp
theorem less_strOf (b c : List Int) : (Op.bytesLess ((strOfNums c).toList) ((strOfNums b).toList)) = true ↔ Lib.compareBytes (b.map fun n => n.toNat.toUInt8) (c.map fun n => n.toNat.toUInt8) > 0 := by
  rw [strOf_list, strOf_list]
  exact less_cmp _ _
theorem l6Join_eq (a b c : List Int) (ha : a.length ≤ 1000) (hb : b.length ≤ 1000) (hc : c.length ≤ 1000) : spec_l6Join.f a b c = some (joinL a b c) := by
  unfold spec_l6Join.f joinL
  rw [l1Copy_eq a (by omega)]
  simp only [Option.bind_some]
  by_cases h : Lib.compareBytes (b.map fun n => n.toNat.toUInt8) (c.map fun n => n.toNat.toUInt8) > 0
  · rw [if_pos ((less_strOf b c).2 h), if_pos h, if_pos (by omega), if_pos (by rw [List.length_append]; omega)]
  · rw [if_neg (fun e => h ((less_strOf b c).1 e)), if_neg h, if_pos (by omega), if_pos (by rw [List.length_append]; omega)]
theorem specJoinKey_eq (a b c : List Int) : spec_JoinKey.f a b c = some (joinR a b c) := by
  unfold spec_JoinKey.f joinR
  by_cases h0 : (a.length : Int) > 40
  · rw [if_pos h0, if_pos h0]
  · rw [if_neg h0, if_neg h0]
    by_cases h1 : (b.length : Int) = 20
    · rw [if_pos h1, if_pos h1]
      by_cases h2 : (c.length : Int) = 20
      · rw [if_pos h2, if_pos h2, l6Join_eq a b c (by omega) (by omega) (by omega)]; rfl
      · rw [if_neg h2, if_neg h2]
    · rw [if_neg h1, if_neg h1]
theorem implJoinKey_bad (a b c : List Int) : Ev (fun k => impl_JoinKey.j0 k a b c true) (2, []) :=
  Ev.ret fun k => by simp only [impl_JoinKey.j0]; rfl
theorem implJoinKey_good (a b c : List Int) (ha : a.length ≤ 1000) (hb : b.length ≤ 1000) (hc : c.length ≤ 1000) : Ev (fun k => impl_JoinKey.j0 k a b c false) (0, joinL a b c) := by
  unfold joinL
  refine Ev.step (fun k => by simp only [impl_JoinKey.j0, bytes_Compare.f, Option.bind_some]; rfl) (Ev.neg (by decide) ?_)
  by_cases h : Lib.compareBytes (b.map fun n => n.toNat.toUInt8) (c.map fun n => n.toNat.toUInt8) > 0
  · rw [if_pos h]
    have e := Concat_ev [a, c, b] (by simp) (by simp only [List.flatten_cons, List.flatten_nil, List.length_append, List.length_nil]; omega)
    rw [show ([a, c, b] : List (List Int)).flatten = a ++ c ++ b by simp] at e
    exact Ev.pos h (Ev.bind e (Ev.now _))
  · rw [if_neg h]
    have e := Concat_ev [a, b, c] (by simp) (by simp only [List.flatten_cons, List.flatten_nil, List.length_append, List.length_nil]; omega)
    rw [show ([a, b, c] : List (List Int)).flatten = a ++ b ++ c by simp] at e
    exact Ev.neg h (Ev.bind e (Ev.now _))
theorem implJoinKey_ev (a b c : List Int) : Ev (fun k => impl_JoinKey.f k a b c) (joinR a b c) := by
  unfold impl_JoinKey.f joinR
  by_cases h0 : (a.length : Int) > 40
  · rw [if_pos h0]; exact Ev.pos h0 (implJoinKey_bad a b c)
  · rw [if_neg h0]
    refine Ev.neg h0 ?_
    by_cases h1 : (b.length : Int) = 20
    · rw [if_pos h1]
      refine Ev.pos h1 ?_
      by_cases h2 : (c.length : Int) = 20
      · rw [if_pos h2, show ((c.length : Int) != 20) = false from bne_eq_false_iff_eq.2 h2]
        exact implJoinKey_good a b c (by omega) (by omega) (by omega)
      · rw [if_neg h2, show ((c.length : Int) != 20) = true from bne_iff_ne.2 h2]
        exact implJoinKey_bad a b c
    · rw [if_neg h1]
      exact Ev.neg h1 (implJoinKey_bad a b c)
theorem FnExactJoinKey : laws_FnExactJoinKey.Pure := by
  intro l0 l1 l2 _ h0 b0 _ h1 b1 _ h2 b2
  have hl := joinR_len l0 l1 l2
  apply Ev.rounds
  unfold laws_FnExactJoinKey.f
  by_cases hbig : (l0.length : Int) > 1048576
  · exact Ev.pos hbig (Ev.now _)
  refine Ev.neg hbig ?_
  by_cases hbig1 : (l1.length : Int) > 1048576
  · exact Ev.pos hbig1 (Ev.now _)
  refine Ev.neg hbig1 ?_
  by_cases hbig2 : (l2.length : Int) > 1048576
  · exact Ev.pos hbig2 (Ev.now _)
  have g0 : l0.length ≤ 1048576 := by omega
  have g1 : l1.length ≤ 1048576 := by omega
  have g2 : l2.length ≤ 1048576 := by omega
  have t0 := toByteS_ev l0 (by omega)
  have t1 := toByteS_ev l1 (by omega)
  have t2 := toByteS_ev l2 (by omega)
  refine Ev.neg hbig2 (Ev.bind t0 (Ev.bind t1 (Ev.bind t2 (Ev.bind (Ev.all fun _ => specJoinKey_eq l0 l1 l2) (Ev.bind t0 (Ev.bind t1 (Ev.bind t2 (Ev.bind (implJoinKey_ev l0 l1 l2) (Ev.bind (eqBytesResult_self _ _ (by omega)) (Ev.pos rfl ?_))))))))))
  refine Ev.bind t0 (Ev.bind (eqByteS_self l0 (by omega)) (Ev.pos rfl (Ev.bind t1 (Ev.bind (eqByteS_self l1 (by omega)) (Ev.pos rfl (Ev.bind t2 (Ev.bind (eqByteS_self l2 (by omega)) (Ev.pos rfl ?_))))))))
  refine Ev.bind (markByteS_ev l0 (by omega) 1 (by omega) (by omega)) (Ev.bind (markByteS_ev l1 (by omega) _ (by show 0 ≤ 1 + (l0.length : Int); omega) (by show 1 + (l0.length : Int) ≤ 4611686018427387904; omega)) (Ev.bind (markByteS_ev l2 (by omega) _ (by show 0 ≤ 1 + (l0.length : Int) + (l1.length : Int); omega) (by show 1 + (l0.length : Int) + (l1.length : Int) ≤ 4611686018427387904; omega)) (Ev.neg (by show ¬ (1 + (l0.length : Int) + (l1.length : Int) + (l2.length : Int) < 0); omega) (Ev.bind (eqBytesResult_self _ _ (by omega)) ?_))))
  refine Ev.step (fun k => by simp only [laws_FnExactJoinKey.j0]; rfl) (Ev.neg (by decide) ?_)
  refine Ev.bind (markBytesResult_ev _ _ (by omega)) (Ev.bind (heldBytesResult_ev _ _ (by omega)) (Ev.neg (by omega) (Ev.pos rfl ?_)))
  refine Ev.bind t0 (Ev.bind t1 (Ev.bind t2 (Ev.bind (implJoinKey_ev l0 l1 l2) (Ev.bind (eqBytesResult_self _ _ (by omega)) (Ev.pos rfl ?_)))))
  exact Ev.bind (heldBytesResult_ev _ _ (by omega)) (Ev.neg (by omega) (Ev.pos rfl (Ev.now _)))
end FnExactJoinKey_
theorem FnExactJoinKey : laws_FnExactJoinKey.Pure := FnExactJoinKey_.FnExactJoinKey
end Go.Proofs.Ytacfebnfdmbkaaa.Pure
