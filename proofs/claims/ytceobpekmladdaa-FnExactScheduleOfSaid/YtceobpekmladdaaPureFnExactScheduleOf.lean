/- The pure statement of FnExactScheduleOf: what the printed functions of the program and of the reference compute makes the law answer true, for all arguments (each number of its kind). -/
import Derived.Test.YtceobpekmladdaaPFnExactScheduleOfx5
import Derived.Test.YtceobpekmladdaaBase
import Derived.Test.YtceobpekmladdaaSz
set_option linter.unusedVariables false
set_option linter.unusedSimpArgs false
namespace Go.Proofs.Ytceobpekmladdaa.Pure
open Go.RowKit Go.Proofs.Ytceobpekmladdaa.PFnExactScheduleOf Go.Proofs.YtceobpekmladdaaW.PrintWords Go.Proofs.YtceobpekmladdaaW.PrintLast Go.Proofs.YtceobpekmladdaaW.PrintMore Go.Proofs.Ytceobpekmladdaa.Base
namespace FnExactScheduleOf_
theorem toByteS_l0 (l : List Int) (hl : l.length ≤ 281474976710656) (d : Nat) : ∀ (i : Nat) (x : List Int), i + d = l.length → x.length = l.length → x.take i = l.take i → Ev (fun k => laws_toByteS.l0 k l x (i : Int)) l := by
  induction d with
  | zero =>
    intro i x h hx ht
    have e : x = l := by
      rw [List.take_of_length_le (by omega), List.take_of_length_le (by omega)] at ht
      exact ht
    subst e
    exact Ev.ret fun k => by simp only [laws_toByteS.l0]; rw [if_neg (by omega)]
  | succ d ih =>
    intro i x h hx ht
    have hi : i < l.length := by omega
    refine Ev.step (f := fun k => laws_toByteS.l0 k l (x.set i l[i]) ((i + 1 : Nat) : Int)) (fun k => ?_) ?_
    · simp only [laws_toByteS.l0]
      rw [if_pos (by omega), if_pos (by omega), if_pos (by omega), rd_nat l i hi, w64 (by omega) (by omega)]
      simp only [Int.toNat_natCast]; rfl
    · refine ih (i + 1) _ (by omega) (by rw [List.length_set]; exact hx) ?_
      rw [List.take_succ_eq_append_getElem (by rw [List.length_set]; omega), List.take_succ_eq_append_getElem hi, List.getElem_set_self, List.take_set_of_le (by omega), ht]
theorem toByteS_ev (l : List Int) (hl : l.length ≤ 281474976710656) : Ev (fun k => laws_toByteS.f k l) l := by
  unfold laws_toByteS.f
  simp only [if_pos (show (0 : Int) ≤ (l.length : Int) by omega), if_pos (show ((l.length : Int) : Int).toNat ≤ 281474976710656 by omega)]
  exact toByteS_l0 l hl l.length 0 _ (by omega) (by simp) (by simp)
theorem eqByteS_l0 (l : List Int) (hl : l.length ≤ 4611686018427387904) (d : Nat) : ∀ i : Nat, i + d = l.length → Ev (fun k => laws_eqByteS.l0 k l l (i : Int)) true := by
  induction d with
  | zero =>
    intro i h
    exact Ev.ret fun k => by simp only [laws_eqByteS.l0]; rw [if_neg (by omega)]
  | succ d ih =>
    intro i h
    refine Ev.step (f := fun k => laws_eqByteS.l0 k l l ((i + 1 : Nat) : Int)) (fun k => ?_) (ih (i + 1) (by omega))
    simp only [laws_eqByteS.l0]
    rw [if_pos (by omega), if_pos (by omega), if_pos (by omega), if_pos (by trivial), w64 (by omega) (by omega)]; rfl
theorem eqByteS_self (l : List Int) (hl : l.length ≤ 4611686018427387904) : Ev (fun k => laws_eqByteS.f k l l) true := by
  unfold laws_eqByteS.f
  simp only [if_true]
  exact eqByteS_l0 l hl l.length 0 (by omega)
theorem l1Add_eq {a b : Int} (ha : Wd a) (hb : Wd b) : spec_l1Add.f a b = some ((a + b) % 4294967296) := by
  obtain ⟨_, _⟩ := ha
  obtain ⟨_, _⟩ := hb
  unfold spec_l1Add.f
  rw [w64 (by omega) (by omega), Int.tmod_eq_emod_of_nonneg (by omega)]
theorem addWords_l0 (l : List Int) (hl : l.length ≤ 4611686018427387904) (hw : ∀ x ∈ l, Wd x) (d : Nat) : ∀ (i : Nat) (s : Int), i + d = l.length → Wd s → Ev (fun k => impl_addWords.l0 k s l (l.length : Int) (i : Int)) (sumW s (l.drop i)) := by
  induction d with
  | zero =>
    intro i s h hs
    rw [List.drop_of_length_le (by omega)]
    exact Ev.ret fun k => by simp only [impl_addWords.l0]; rw [if_neg (by omega)]; rfl
  | succ d ih =>
    intro i s h hs
    have hi : i < l.length := by omega
    have hx := hw _ (List.getElem_mem hi)
    rw [List.drop_eq_getElem_cons hi]
    refine Ev.step (f := fun k => impl_addWords.l0 k ((s + l[i]) % 4294967296) l (l.length : Int) ((i + 1 : Nat) : Int)) (fun k => ?_) (ih (i + 1) _ (by omega) (Wd.mod _))
    obtain ⟨_, _⟩ := hx
    obtain ⟨_, _⟩ := hs
    simp only [impl_addWords.l0]
    rw [if_pos (by omega), if_pos (by omega), if_pos (by omega), rd_nat l i hi, w64 (x := s + l[i]) (by omega) (by omega), band_mask, w64 (by omega) (by omega)]; rfl
theorem addWords_ev (l : List Int) (hl : l.length ≤ 4611686018427387904) (hw : ∀ x ∈ l, Wd x) : Ev (fun k => impl_addWords.f k l) (sumW 0 l) := addWords_l0 l hl hw l.length 0 0 (by omega) ⟨by decide, by decide⟩
theorem addWords_two {a b : Int} (ha : Wd a) (hb : Wd b) : Ev (fun k => impl_addWords.f k ([a, b] : List Int)) ((a + b) % 4294967296) := by
  have h := addWords_ev [a, b] (by simp) (by intro x hx; simp at hx; rcases hx with rfl | rfl <;> assumption)
  have e : sumW 0 [a, b] = (a + b) % 4294967296 := by
    simp only [sumW, List.foldl_cons, List.foldl_nil]; omega
  rwa [e] at h
theorem l1Pow_l0 (n : Nat) : ∀ (m : Nat), n + m ≤ 40 → Ev (fun k => spec_l1Pow.l0 k (n : Int) ((2 ^ m : Nat) : Int)) ((2 ^ (n + m) : Nat) : Int) := by
  induction n with
  | zero =>
    intro m _
    exact Ev.ret fun k => by simp only [spec_l1Pow.l0]; rw [if_neg (by omega), Nat.zero_add]
  | succ n ih =>
    intro m hm
    have hp : (2 : Nat) ^ m ≤ 2 ^ 40 := Nat.pow_le_pow_right (by decide) (by omega)
    have hp0 : 0 < (2 : Nat) ^ m := Nat.two_pow_pos m
    refine Ev.step (f := fun k => spec_l1Pow.l0 k (n : Int) ((2 ^ (m + 1) : Nat) : Int)) (fun k => ?_) ?_
    · simp only [spec_l1Pow.l0]
      rw [if_pos (by omega), w64 (by omega) (by omega), w64 (by omega) (by omega)]
      have e1 : ((n + 1 : Nat) : Int) - 1 = (n : Int) := by omega
      have e2 : ((2 ^ m : Nat) : Int) * 2 = ((2 ^ (m + 1) : Nat) : Int) := by rw [Nat.pow_succ]; omega
      rw [e1, e2]
    · have := ih (m + 1) (by omega)
      rwa [show n + (m + 1) = n + 1 + m by omega] at this
theorem l1Pow_ev (n : Nat) (hn : n ≤ 40) : Ev (fun k => spec_l1Pow.f k (n : Int)) ((2 ^ n : Nat) : Int) := l1Pow_l0 n 0 (by omega)
theorem rot_wrap (A R C : Nat) (hA : A ≤ 4294967295) (hC : C ≤ 4294967296) (hR : R * C ≤ 4294967296) : wrap64 (wrap64 (A : Int) + wrap64 ((R : Int) * wrap64 (C : Int))) = ((A + R * C : Nat) : Int) := by
  rw [w64 (x := (C : Int)) (by omega) (by omega), ← Int.natCast_mul]
  generalize R * C = z at *
  rw [w64 (x := (A : Int)) (by omega) (by omega), w64 (x := (z : Int)) (by omega) (by omega), w64 (by omega) (by omega)]; rfl
theorem l1Rotate_ev {w : Int} (hw : Wd w) (n : Nat) (hn : n ≤ 32) : Ev (fun k => spec_l1Rotate.f k w (n : Int)) (rot w n) := by
  obtain ⟨h0, h1⟩ := hw
  obtain ⟨a, rfl⟩ := Int.eq_ofNat_of_zero_le h0
  have hp : 0 < 2 ^ n := Nat.two_pow_pos n
  have e := two_pow_split hn
  obtain ⟨h2, h3⟩ := rot_nat_lt (a := a) (by omega) hn
  have hq : 2 ^ (32 - n) ≤ 4294967296 := by rw [← e]; exact Nat.le_mul_of_pos_left _ hp
  have hd : a / 2 ^ n ≤ a := Nat.div_le_self _ _
  have d1 : Int.tdiv (a : Int) ((2 ^ n : Nat) : Int) = ((a / 2 ^ n : Nat) : Int) := (Int.ofNat_tdiv _ _).symm
  have d2 : Int.tmod (a : Int) ((2 ^ n : Nat) : Int) = ((a % 2 ^ n : Nat) : Int) := (Int.ofNat_tmod _ _).symm
  have d3 : Int.tdiv (4294967296 : Int) ((2 ^ n : Nat) : Int) = ((2 ^ (32 - n) : Nat) : Int) := by
    have h5 : (4294967296 : Int) = ((4294967296 : Nat) : Int) := rfl
    rw [h5, ← Int.ofNat_tdiv, ← e, Nat.mul_div_cancel_left _ hp]
  have er : rot (a : Int) n = ((a / 2 ^ n + a % 2 ^ n * 2 ^ (32 - n) : Nat) : Int) := by unfold rot; rw [Int.toNat_natCast]
  unfold spec_l1Rotate.f
  refine Ev.bind (l1Pow_ev n (by omega)) ?_
  generalize hP : 2 ^ n = P at *
  refine Ev.neg (show ¬ (P : Int) = 0 by omega) ?_
  rw [d1, d2, d3, rot_wrap _ _ _ (Nat.le_trans hd (by omega)) hq (Nat.le_trans (Nat.le_add_right _ _) h3), er]
  exact Ev.now _
theorem wrap_low (z : Nat) : (((z : Int) + 9223372036854775808) % 18446744073709551616 - 9223372036854775808) % 4294967296 = ((z % 4294967296 : Nat) : Int) := by omega
theorem mod_low (z : Nat) : ((z : Int) % 4294967296).toNat = z % 4294967296 := by omega
theorem rotate_eq {w : Int} (hw : Wd w) (n : Nat) (hn : n ≤ 32) : impl_rotate.f w (n : Int) = some (rot w n) := by
  obtain ⟨h0, h1⟩ := hw
  obtain ⟨a, rfl⟩ := Int.eq_ofNat_of_zero_le h0
  have two : ((2 : Nat) : Int) = 2 := rfl
  have ew : wrap64 (32 - (n : Int)) = ((32 - n : Nat) : Int) := by rw [w64 (by omega) (by omega)]; omega
  have es : shr .i64 (a : Int) (n : Int) = ((a / 2 ^ n : Nat) : Int) := by
    unfold shr
    rw [Int.toNat_natCast, Nat.min_eq_left (show n ≤ IntKind.i64.bits by show n ≤ 64; omega), Int.natCast_ediv, Int.natCast_pow, two]
  have el : shl .i64 (a : Int) ((32 - n : Nat) : Int) % 4294967296 = ((a * 2 ^ (32 - n) % 4294967296 : Nat) : Int) := by
    unfold shl
    have h5 : (a : Int) * 2 ^ (32 - n) = ((a * 2 ^ (32 - n) : Nat) : Int) := by rw [Int.natCast_mul, Int.natCast_pow, two]
    rw [Int.toNat_natCast, Nat.min_eq_left (show 32 - n ≤ IntKind.i64.bits by show 32 - n ≤ 64; omega), IntKind.wrap_i64, h5]
    exact wrap_low _
  have h := rot_or (a := a) (n := n) (by omega) hn
  have t1 : (((a / 2 ^ n : Nat) : Int) % 4294967296).toNat = (a / 2 ^ n) % 4294967296 := mod_low _
  unfold impl_rotate.f
  rw [if_pos (show 0 ≤ (n : Int) by omega), ew, if_pos (show 0 ≤ ((32 - n : Nat) : Int) by omega), band_mask, bor_mask, es, el, t1, Int.toNat_natCast, h]
  unfold rot
  rw [Int.toNat_natCast]
theorem l1At_eq {l : List Int} (hb : Bytes l) (hl : l.length ≤ 4611686018427387904) {i : Int} (h0 : 0 ≤ i) (h1 : i + 4 ≤ (l.length : Int)) : spec_l1At.f l i = some (at4 l i) := by
  unfold spec_l1At.f
  rw [w64 (x := i + 1) (by omega) (by omega), w64 (x := i + 2) (by omega) (by omega), w64 (x := i + 3) (by omega) (by omega)]
  rw [if_pos (by omega), if_pos (by omega), if_pos (by omega), if_pos (by omega), if_pos (by omega), if_pos (by omega), if_pos (by omega), if_pos (by omega)]
  have b0 := hb.rd i
  have b1 := hb.rd (i + 1)
  have b2 := hb.rd (i + 2)
  have b3 := hb.rd (i + 3)
  rw [w64 (x := rd l i) (by omega) (by omega), w64 (x := rd l (i + 1)) (by omega) (by omega), w64 (x := rd l (i + 2)) (by omega) (by omega), w64 (x := rd l (i + 3)) (by omega) (by omega)]
  rw [w64 (x := rd l i * 16777216) (by omega) (by omega), w64 (x := rd l (i + 1) * 65536) (by omega) (by omega), w64 (x := rd l (i + 2) * 256) (by omega) (by omega)]
  rw [w64 (x := rd l i * 16777216 + rd l (i + 1) * 65536) (by omega) (by omega), w64 (x := rd l i * 16777216 + rd l (i + 1) * 65536 + rd l (i + 2) * 256) (by omega) (by omega), w64 (by omega) (by omega)]
  rfl
theorem wordAt_eq {l : List Int} (hb : Bytes l) (hl : l.length ≤ 4611686018427387904) {i : Int} (h0 : 0 ≤ i) (h1 : i + 4 ≤ (l.length : Int)) : impl_wordAt.f l i = some (at4 l i) := by
  unfold impl_wordAt.f
  rw [w64 (x := i + 1) (by omega) (by omega), w64 (x := i + 2) (by omega) (by omega), w64 (x := i + 3) (by omega) (by omega)]
  rw [if_pos (by omega), if_pos (by omega), if_pos (by omega), if_pos (by omega), if_pos (by omega), if_pos (by omega), if_pos (by omega), if_pos (by omega)]
  have b0 := hb.rd i
  have b1 := hb.rd (i + 1)
  have b2 := hb.rd (i + 2)
  have b3 := hb.rd (i + 3)
  rw [w64 (x := rd l i) (by omega) (by omega), w64 (x := rd l (i + 1)) (by omega) (by omega), w64 (x := rd l (i + 2)) (by omega) (by omega), w64 (x := rd l (i + 3)) (by omega) (by omega)]
  rw [w64 (x := rd l i * 16777216) (by omega) (by omega), w64 (x := rd l (i + 1) * 65536) (by omega) (by omega), w64 (x := rd l (i + 2) * 256) (by omega) (by omega)]
  rw [bor_add (x := rd l i * 16777216) (y := rd l (i + 1) * 65536) 24 (by omega) (by omega) (by omega) (by omega) (by omega) (by omega), bor_add (x := rd l i * 16777216 + rd l (i + 1) * 65536) (y := rd l (i + 2) * 256) 16 (by omega) (by omega) (by omega) (by omega) (by omega) (by omega), bor_add (x := rd l i * 16777216 + rd l (i + 1) * 65536 + rd l (i + 2) * 256) 8 (by omega) (by omega) (by omega) (by omega) (by omega) (by omega)]
  rfl
theorem markByteS_l0 (n : Nat) (hn : n ≤ 281474976710656) (a : Int) (ha : 0 ≤ a) (ha1 : a ≤ 4611686018427387904) (d : Nat) : ∀ (i : Nat) (x : List Int), i + d = n → x.length = n → x.take i = mks a i → Ev (fun k => laws_markByteS.l0 k x (a + i) (i : Int)) (a + n, mks a n) := by
  induction d with
  | zero =>
    intro i x h hx ht
    have e : x = mks a n := by
      rw [show i = n by omega, List.take_of_length_le (by omega)] at ht
      exact ht
    obtain rfl : i = n := by omega
    subst e
    exact Ev.ret fun k => by simp only [laws_markByteS.l0]; rw [if_neg (by rw [mks_length]; omega)]
  | succ d ih =>
    intro i x h hx ht
    have hi : i < x.length := by omega
    refine Ev.step (f := fun k => laws_markByteS.l0 k (x.set i ((a + i) % 256)) (a + ((i + 1 : Nat) : Int)) ((i + 1 : Nat) : Int)) (fun k => ?_) (ih (i + 1) _ (by omega) (by rw [List.length_set]; exact hx) ?_)
    · simp only [laws_markByteS.l0]
      rw [if_pos (by omega), if_pos (by omega), w64 (x := (i : Int) + 1) (by omega) (by omega), w64 (x := a + i + 1) (by omega) (by omega)]
      simp only [Int.toNat_natCast]
      have : a + (i : Int) + 1 = a + ((i + 1 : Nat) : Int) := by omega
      rw [this]; rfl
    · rw [List.take_succ_eq_append_getElem (by rw [List.length_set]; omega), List.getElem_set_self, List.take_set_of_le (by omega), ht, mks_snoc]
theorem markByteS_ev (l : List Int) (hl : l.length ≤ 281474976710656) (a : Int) (ha : 0 ≤ a) (ha1 : a ≤ 4611686018427387904) : Ev (fun k => laws_markByteS.f k l a) (a + l.length, mks a l.length) := by
  have h := markByteS_l0 l.length hl a ha ha1 l.length 0 l (by omega) rfl rfl
  unfold laws_markByteS.f
  simpa only [Int.natCast_zero, Int.add_zero] using h
theorem l2Xor_l0 {a b : Nat} (ha : a < 4294967296) (hb : b < 4294967296) (d : Nat) : ∀ j : Nat, j + d = 32 → Ev (fun k => spec_l2Xor.l0 k (a : Int) (b : Int) (((a ^^^ b) % 2 ^ j : Nat) : Int) ((2 ^ j : Nat) : Int)) ((a ^^^ b : Nat) : Int) := by
  have hx : a ^^^ b < 4294967296 := Nat.xor_lt_two_pow (n := 32) ha hb
  induction d with
  | zero =>
    intro j h
    obtain rfl : j = 32 := by omega
    rw [Nat.mod_eq_of_lt (show a ^^^ b < 2 ^ 32 from hx)]
    exact Ev.ret fun k => by simp only [spec_l2Xor.l0]; rw [if_neg (by decide)]
  | succ d ih =>
    intro j h
    obtain ⟨p0, p1⟩ := two_pow_lt (show j < 32 by omega)
    have hs := xor_step a b j
    have hl := low_lt (a ^^^ b) j hx
    have e2 : wrap64 (((2 ^ j : Nat) : Int) * 2) = ((2 ^ (j + 1) : Nat) : Int) := by
      rw [Nat.pow_succ]; exact wrap_dbl p1
    have e3 : wrap64 ((((a ^^^ b) % 2 ^ j : Nat) : Int) + ((2 ^ j : Nat) : Int)) = (((a ^^^ b) % 2 ^ j + 2 ^ j : Nat) : Int) := by
      exact wrap_sum hl p1
    refine Ev.step (f := fun k => spec_l2Xor.l0 k (a : Int) (b : Int) (((a ^^^ b) % 2 ^ (j + 1) : Nat) : Int) ((2 ^ (j + 1) : Nat) : Int)) (fun k => ?_) (ih (j + 1) (by omega))
    simp only [spec_l2Xor.l0]
    rw [bit_of a j ha, bit_of b j hb, e2, e3, hs]
    rw [if_pos (cast_lt p1), if_neg (cast_ne p0)]
    by_cases c : a / 2 ^ j % 2 = b / 2 ^ j % 2
    · rw [if_pos (Int.ofNat_inj.2 c), if_pos c]; rfl
    · rw [if_neg (fun h => c (Int.ofNat_inj.1 h)), if_neg c]
theorem l2Xor_ev {a b : Int} (ha : Wd a) (hb : Wd b) : Ev (fun k => spec_l2Xor.f k a b) (xr a b) := by
  obtain ⟨a0, a1⟩ := ha
  obtain ⟨b0, b1⟩ := hb
  obtain ⟨x, rfl⟩ := Int.eq_ofNat_of_zero_le a0
  obtain ⟨y, rfl⟩ := Int.eq_ofNat_of_zero_le b0
  have h := l2Xor_l0 (a := x) (b := y) (by omega) (by omega) 32 0 rfl
  rw [Nat.pow_zero, Nat.mod_one] at h
  exact h
theorem l2Small_ev {x : Int} (hx : Wd x) (a b c : Nat) (ha : a ≤ 32) (hb : b ≤ 32) (hc : c ≤ 32) : Ev (fun k => spec_l2Small.f k x (a : Int) (b : Int) (c : Int)) (xr (xr (rot x a) (rot x b)) (x / ((2 ^ c : Nat) : Int))) := by
  have hp : 0 < 2 ^ c := Nat.two_pow_pos c
  obtain ⟨e1, hd⟩ := wrap_tdiv hx hp
  unfold spec_l2Small.f
  refine Ev.bind (l1Rotate_ev hx a ha) (Ev.bind (l1Rotate_ev hx b hb) (Ev.bind (l2Xor_ev (hx.rot ha) (hx.rot hb)) (Ev.bind (l1Pow_ev c (by omega)) ?_)))
  refine Ev.neg (cast_ne hp) ?_
  rw [e1]
  exact Ev.bind (l2Xor_ev ((hx.rot ha).xr (hx.rot hb)) hd) (Ev.now _)
theorem l2Small0_ev {x : Int} (hx : Wd x) : Ev (fun k => spec_l2Small.f k x 7 18 3) (ssig0 x) := by
  have h := l2Small_ev hx 7 18 3 (by decide) (by decide) (by decide)
  have e : ((2 ^ 3 : Nat) : Int) = 8 := by decide
  rw [e] at h
  exact h
theorem l2Small1_ev {x : Int} (hx : Wd x) : Ev (fun k => spec_l2Small.f k x 17 19 10) (ssig1 x) := by
  have h := l2Small_ev hx 17 19 10 (by decide) (by decide) (by decide)
  have e : ((2 ^ 10 : Nat) : Int) = 1024 := by decide
  rw [e] at h
  exact h
theorem add4_mod (a b c d : Int) : ((a + b) % 4294967296 + (c + d) % 4294967296) % 4294967296 = (a + b + c + d) % 4294967296 := by omega
theorem l2Schedule_l1 {b : List Int} (hb : Bytes b) (d : Nat) : ∀ n : Nat, n + d = 48 → Ev (fun k => spec_l2Schedule.l1 k (schedN b n) ((n + 16 : Nat) : Int)) (sched b) := by
  induction d with
  | zero =>
    intro n h
    obtain rfl : n = 48 := by omega
    exact Ev.ret fun k => by simp only [spec_l2Schedule.l1]; rw [if_neg (by decide)]; rfl
  | succ d ih =>
    intro n h
    have hw := schedN_words hb n
    have hl := schedN_length b n
    have e15 : wrap64 (((n + 16 : Nat) : Int) - 15) = (n : Int) + 16 - 15 := by rw [w64 (by omega) (by omega)]; omega
    have e2 : wrap64 (((n + 16 : Nat) : Int) - 2) = (n : Int) + 16 - 2 := by rw [w64 (by omega) (by omega)]; omega
    have e16 : wrap64 (((n + 16 : Nat) : Int) - 16) = (n : Int) + 16 - 16 := by rw [w64 (by omega) (by omega)]; omega
    have e7 : wrap64 (((n + 16 : Nat) : Int) - 7) = (n : Int) + 16 - 7 := by rw [w64 (by omega) (by omega)]; omega
    have e1 : wrap64 (((n + 16 : Nat) : Int) + 1) = ((n + 1 + 16 : Nat) : Int) := by rw [w64 (by omega) (by omega)]; omega
    refine Ev.step (fun k => by simp only [spec_l2Schedule.l1, e15, e2, e16, e7, e1]; rfl) ?_
    refine Ev.pos (by omega) (Ev.pos (by omega) (Ev.pos (by omega) (Ev.bind (l2Small0_ev (hw.rd _)) (Ev.pos (by omega) (Ev.pos (by omega) (Ev.bind (l2Small1_ev (hw.rd _)) (Ev.pos (by omega) (Ev.pos (by omega) (Ev.pos (by omega) (Ev.pos (by omega) ?_))))))))))
    refine Ev.bind (Ev.all fun _ => l1Add_eq (hw.rd _) (hw.rd _)) (Ev.bind (Ev.all fun _ => l1Add_eq (hw.rd _).ssig0 (hw.rd _).ssig1) (Ev.bind (Ev.all fun _ => l1Add_eq (Wd.mod _) (Wd.mod _)) ?_))
    have es : ((rd (schedN b n) ((n : Int) + 16 - 16) + rd (schedN b n) ((n : Int) + 16 - 7)) % 4294967296 + (ssig0 (rd (schedN b n) ((n : Int) + 16 - 15)) + ssig1 (rd (schedN b n) ((n : Int) + 16 - 2))) % 4294967296) % 4294967296 = schedW (schedN b n) ((n : Int) + 16) := add4_mod _ _ _ _
    rw [es]
    exact Ev.pos (by omega) (ih (n + 1) (by omega))
theorem l2Schedule_l0 {b : List Int} (hb : Bytes b) (hl : b.length = 64) (d : Nat) : ∀ n : Nat, n + d = 16 → Ev (fun k => spec_l2Schedule.l0 k b (sched0 b n) (n : Int)) (sched b) := by
  induction d with
  | zero =>
    intro n h
    obtain rfl : n = 16 := by omega
    refine Ev.step (fun k => ?_) (l2Schedule_l1 hb 48 0 rfl)
    simp only [spec_l2Schedule.l0]; rw [if_neg (by decide)]; rfl
  | succ d ih =>
    intro n h
    refine Ev.step (fun k => ?_) (ih (n + 1) (by omega))
    have e4 : wrap64 (4 * (n : Int)) = 4 * (n : Int) := w64 (by omega) (by omega)
    simp only [spec_l2Schedule.l0, e4]
    rw [if_pos (by omega), l1At_eq hb (by omega) (by omega) (by omega)]; simp only [Option.bind_some]
    rw [if_pos (by rw [sched0_length]; omega), w64 (by omega) (by omega)]; rfl
theorem l2Schedule_ev {b : List Int} (hb : Bytes b) (hl : b.length = 64) : Ev (fun k => spec_l2Schedule.f k b) (sched b) := l2Schedule_l0 hb hl 16 0 rfl
theorem addWords_four {a b c d : Int} (ha : Wd a) (hb : Wd b) (hc : Wd c) (hd : Wd d) : Ev (fun k => impl_addWords.f k ([a, b, c, d] : List Int)) ((a + b + c + d) % 4294967296) := by
  have h := addWords_ev [a, b, c, d] (by simp) (by intro x hx; simp at hx; rcases hx with rfl | rfl | rfl | rfl <;> assumption)
  have e : sumW 0 [a, b, c, d] = (a + b + c + d) % 4294967296 := by
    simp only [sumW, List.foldl_cons, List.foldl_nil]; omega
  rwa [e] at h
theorem scheduleOf_l1 {b : List Int} (hb : Bytes b) (d : Nat) : ∀ n : Nat, n + d = 48 → Ev (fun k => impl_scheduleOf.l1 k (schedN b n) ((n + 16 : Nat) : Int)) (sched b) := by
  induction d with
  | zero =>
    intro n h
    obtain rfl : n = 48 := by omega
    exact Ev.ret fun k => by simp only [impl_scheduleOf.l1]; rw [if_neg (by decide)]; rfl
  | succ d ih =>
    intro n h
    have hw := schedN_words hb n
    have hl := schedN_length b n
    have e15 : wrap64 (((n + 16 : Nat) : Int) - 15) = (n : Int) + 16 - 15 := by rw [w64 (by omega) (by omega)]; omega
    have e2 : wrap64 (((n + 16 : Nat) : Int) - 2) = (n : Int) + 16 - 2 := by rw [w64 (by omega) (by omega)]; omega
    have e16 : wrap64 (((n + 16 : Nat) : Int) - 16) = (n : Int) + 16 - 16 := by rw [w64 (by omega) (by omega)]; omega
    have e7 : wrap64 (((n + 16 : Nat) : Int) - 7) = (n : Int) + 16 - 7 := by rw [w64 (by omega) (by omega)]; omega
    have e1 : wrap64 (((n + 16 : Nat) : Int) + 1) = ((n + 1 + 16 : Nat) : Int) := by rw [w64 (by omega) (by omega)]; omega
    have x15 := hw.rd ((n : Int) + 16 - 15)
    have x2 := hw.rd ((n : Int) + 16 - 2)
    have r1 : impl_rotate.f (rd (schedN b n) ((n : Int) + 16 - 15)) 7 = some (rot (rd (schedN b n) ((n : Int) + 16 - 15)) 7) := rotate_eq x15 7 (by decide)
    have r2 : impl_rotate.f (rd (schedN b n) ((n : Int) + 16 - 15)) 18 = some (rot (rd (schedN b n) ((n : Int) + 16 - 15)) 18) := rotate_eq x15 18 (by decide)
    have r3 : impl_rotate.f (rd (schedN b n) ((n : Int) + 16 - 2)) 17 = some (rot (rd (schedN b n) ((n : Int) + 16 - 2)) 17) := rotate_eq x2 17 (by decide)
    have r4 : impl_rotate.f (rd (schedN b n) ((n : Int) + 16 - 2)) 19 = some (rot (rd (schedN b n) ((n : Int) + 16 - 2)) 19) := rotate_eq x2 19 (by decide)
    refine Ev.step (fun k => by simp only [impl_scheduleOf.l1, e15, e2, e16, e7, e1, r1, r2, r3, r4, Option.bind_some]; rfl) ?_
    refine Ev.pos (by omega) (Ev.pos (by omega) (Ev.pos (by omega) (Ev.pos (by omega) (Ev.pos (by omega) (Ev.pos (by omega) (Ev.pos (by omega) (Ev.pos (by omega) (Ev.pos (by omega) ?_))))))))
    rw [(x15.rot (by decide)).bxor (x15.rot (by decide)), ((x15.rot (by decide)).xr (x15.rot (by decide))).bxor (x15.div (by decide)), (x2.rot (by decide)).bxor (x2.rot (by decide)), ((x2.rot (by decide)).xr (x2.rot (by decide))).bxor (x2.div (by decide))]
    exact Ev.bind (addWords_four (hw.rd _) (hw.rd _) x15.ssig0 x2.ssig1) (Ev.pos (by omega) (ih (n + 1) (by omega)))
theorem scheduleOf_l0 {b : List Int} (hb : Bytes b) (hl : b.length = 64) (d : Nat) : ∀ n : Nat, n + d = 16 → Ev (fun k => impl_scheduleOf.l0 k b (sched0 b n) (n : Int)) (sched b) := by
  induction d with
  | zero =>
    intro n h
    obtain rfl : n = 16 := by omega
    refine Ev.step (fun k => ?_) (scheduleOf_l1 hb 48 0 rfl)
    simp only [impl_scheduleOf.l0]; rw [if_neg (by decide)]; rfl
  | succ d ih =>
    intro n h
    refine Ev.step (fun k => ?_) (ih (n + 1) (by omega))
    have e4 : wrap64 (4 * (n : Int)) = 4 * (n : Int) := w64 (by omega) (by omega)
    simp only [impl_scheduleOf.l0, e4]
    rw [if_pos (by omega), wordAt_eq hb (by omega) (by omega) (by omega)]; simp only [Option.bind_some]
    rw [if_pos (by rw [sched0_length]; omega), w64 (by omega) (by omega)]; rfl
theorem scheduleOf_ev {b : List Int} (hb : Bytes b) (hl : b.length = 64) : Ev (fun k => impl_scheduleOf.f k b) (sched b) := scheduleOf_l0 hb hl 16 0 rfl
theorem specScheduleOf_ev {b : List Int} (hb : Bytes b) : Ev (fun k => spec_ScheduleOf.f k b) (schedR b) := by
  unfold spec_ScheduleOf.f schedR
  by_cases h : b.length = 64
  · rw [if_pos h]; exact Ev.pos (by omega) (Ev.bind (l2Schedule_ev hb h) (Ev.now _))
  · rw [if_neg h]; exact Ev.neg (by omega) (Ev.now _)
theorem implScheduleOf_ev {b : List Int} (hb : Bytes b) : Ev (fun k => impl_ScheduleOf.f k b) (schedR b) := by
  unfold impl_ScheduleOf.f schedR
  by_cases h : b.length = 64
  · rw [if_pos h]; exact Ev.pos (by omega) (Ev.bind (scheduleOf_ev hb h) (Ev.now _))
  · rw [if_neg h]; exact Ev.neg (by omega) (Ev.now _)
theorem eqInt64S_l0 (l : List Int) (hl : l.length ≤ 4611686018427387904) (d : Nat) : ∀ i : Nat, i + d = l.length → Ev (fun k => laws_eqInt64S.l0 k l l (i : Int)) true := by
  induction d with
  | zero =>
    intro i h
    exact Ev.ret fun k => by simp only [laws_eqInt64S.l0]; rw [if_neg (by omega)]
  | succ d ih =>
    intro i h
    refine Ev.step (f := fun k => laws_eqInt64S.l0 k l l ((i + 1 : Nat) : Int)) (fun k => ?_) (ih (i + 1) (by omega))
    simp only [laws_eqInt64S.l0]
    rw [if_pos (by omega), if_pos (by omega), if_pos (by omega), if_pos (by trivial), w64 (by omega) (by omega)]; rfl
theorem eqInt64S_self (l : List Int) (hl : l.length ≤ 4611686018427387904) : Ev (fun k => laws_eqInt64S.f k l l) true := by
  unfold laws_eqInt64S.f
  simp only [if_true]
  exact eqInt64S_l0 l hl l.length 0 (by omega)
theorem eqWordsResult_self (c : Int) (l : List Int) (hl : l.length ≤ 4611686018427387904) : Ev (fun k => laws_eqWordsResult.f k c l c l) true := by
  unfold laws_eqWordsResult.f
  exact Ev.pos rfl (Ev.bind (eqInt64S_self l hl) (Ev.pos rfl (Ev.now _)))
theorem markInt64S_l0 (n : Nat) (hn : n ≤ 281474976710656) (a : Int) (ha : 0 ≤ a) (ha1 : a ≤ 4611686018427387904) (d : Nat) : ∀ (i : Nat) (x : List Int), i + d = n → x.length = n → x.take i = mkI a i → Ev (fun k => laws_markInt64S.l0 k x (a + i) (i : Int)) (a + n, mkI a n) := by
  induction d with
  | zero =>
    intro i x h hx ht
    have e : x = mkI a n := by
      rw [show i = n by omega, List.take_of_length_le (by omega)] at ht
      exact ht
    obtain rfl : i = n := by omega
    subst e
    exact Ev.ret fun k => by simp only [laws_markInt64S.l0]; rw [if_neg (by rw [mkI_length]; omega)]
  | succ d ih =>
    intro i x h hx ht
    have hi : i < x.length := by omega
    refine Ev.step (f := fun k => laws_markInt64S.l0 k (x.set i (a + i)) (a + ((i + 1 : Nat) : Int)) ((i + 1 : Nat) : Int)) (fun k => ?_) (ih (i + 1) _ (by omega) (by rw [List.length_set]; exact hx) ?_)
    · simp only [laws_markInt64S.l0]
      rw [if_pos (by omega), if_pos (by omega), w64 (x := (i : Int) + 1) (by omega) (by omega), w64 (x := a + i + 1) (by omega) (by omega)]
      simp only [Int.toNat_natCast]
      have : a + (i : Int) + 1 = a + ((i + 1 : Nat) : Int) := by omega
      rw [this]; rfl
    · rw [List.take_succ_eq_append_getElem (by rw [List.length_set]; omega), List.getElem_set_self, List.take_set_of_le (by omega), ht, mkI_snoc]
theorem markInt64S_ev (l : List Int) (hl : l.length ≤ 281474976710656) (a : Int) (ha : 0 ≤ a) (ha1 : a ≤ 4611686018427387904) : Ev (fun k => laws_markInt64S.f k l a) (a + l.length, mkI a l.length) := by
  have h := markInt64S_l0 l.length hl a ha ha1 l.length 0 l (by omega) rfl rfl
  unfold laws_markInt64S.f
  simpa only [Int.natCast_zero, Int.add_zero] using h
theorem heldInt64S_l0 (n : Nat) (hn : n ≤ 281474976710656) (a : Int) (ha : 0 ≤ a) (ha1 : a ≤ 4611686018427387904) (d : Nat) : ∀ (i : Nat), i + d = n → Ev (fun k => laws_heldInt64S.l0 k (mkI a n) (a + i) (i : Int)) (a + n) := by
  induction d with
  | zero =>
    intro i h
    obtain rfl : i = n := by omega
    exact Ev.ret fun k => by simp only [laws_heldInt64S.l0]; rw [if_neg (by rw [mkI_length]; omega)]
  | succ d ih =>
    intro i h
    refine Ev.step (f := fun k => laws_heldInt64S.l0 k (mkI a n) (a + ((i + 1 : Nat) : Int)) ((i + 1 : Nat) : Int)) (fun k => ?_) (ih (i + 1) (by omega))
    simp only [laws_heldInt64S.l0]
    rw [if_pos (by rw [mkI_length]; omega), if_pos (by omega), rd_nat _ i (by rw [mkI_length]; omega), mkI_get a n i (by omega), if_pos rfl, w64 (x := (i : Int) + 1) (by omega) (by omega), w64 (x := a + i + 1) (by omega) (by omega)]
    have : a + (i : Int) + 1 = a + ((i + 1 : Nat) : Int) := by omega
    rw [this]; rfl
theorem heldInt64S_ev (n : Nat) (hn : n ≤ 281474976710656) (a : Int) (ha : 0 ≤ a) (ha1 : a ≤ 4611686018427387904) : Ev (fun k => laws_heldInt64S.f k (mkI a n) a) (a + n) := by
  have h := heldInt64S_l0 n hn a ha ha1 n 0 (by omega)
  unfold laws_heldInt64S.f
  simpa only [Int.natCast_zero, Int.add_zero] using h
theorem markWordsResult_ev (c : Int) (l : List Int) (hl : l.length ≤ 281474976710656) : Ev (fun k => laws_markWordsResult.f k c l 1) (1 + l.length, mkI 1 l.length) := by
  unfold laws_markWordsResult.f
  exact Ev.bind (markInt64S_ev l hl 1 (by omega) (by omega)) (Ev.now _)
theorem heldWordsResult_ev (c : Int) (n : Nat) (hn : n ≤ 281474976710656) : Ev (fun k => laws_heldWordsResult.f k c (mkI 1 n) 1) (1 + n) := by
  unfold laws_heldWordsResult.f
  exact Ev.bind (heldInt64S_ev n hn 1 (by omega) (by omega)) (Ev.neg (by omega) (Ev.now _))
theorem FnExactScheduleOf : laws_FnExactScheduleOf.Pure := by
  intro l0 _ h0 b0
  have B0 := Bytes.of_wf b0
  have hl := schedR_len l0
  apply Ev.rounds
  unfold laws_FnExactScheduleOf.f
  by_cases hbig : (l0.length : Int) > 1048576
  · exact Ev.pos hbig (Ev.now _)
  refine Ev.neg hbig (Ev.bind (toByteS_ev l0 (by omega)) (Ev.bind (specScheduleOf_ev B0) (Ev.bind (toByteS_ev l0 (by omega)) (Ev.bind (implScheduleOf_ev B0) (Ev.bind (eqWordsResult_self _ _ (by omega)) (Ev.pos rfl (Ev.bind (toByteS_ev l0 (by omega)) (Ev.bind (eqByteS_self l0 (by omega)) (Ev.pos rfl (Ev.bind (markByteS_ev l0 (by omega) 1 (by omega) (by omega)) (Ev.neg (by omega) (Ev.bind (eqWordsResult_self _ _ (by omega)) ?_))))))))))))
  refine Ev.step (fun k => by simp only [laws_FnExactScheduleOf.j0]; rfl) (Ev.neg (by decide) ?_)
  refine Ev.bind (markWordsResult_ev _ _ (by omega)) (Ev.bind (heldWordsResult_ev _ _ (by omega)) (Ev.neg (by omega) (Ev.pos rfl ?_)))
  refine Ev.bind (toByteS_ev l0 (by omega)) (Ev.bind (implScheduleOf_ev B0) (Ev.bind (eqWordsResult_self _ _ (by omega)) (Ev.pos rfl ?_)))
  exact Ev.bind (heldWordsResult_ev _ _ (by omega)) (Ev.neg (by omega) (Ev.pos rfl (Ev.now _)))
end FnExactScheduleOf_
theorem FnExactScheduleOf : laws_FnExactScheduleOf.Pure := FnExactScheduleOf_.FnExactScheduleOf
end Go.Proofs.Ytceobpekmladdaa.Pure
