/- The pure statement of FnWords: what the printed functions of the program and of the reference compute makes the law answer true, for all arguments (each number of its kind). -/
import Derived.Test.YtacfebnfdmbkaaaPFnWordsx5
import Derived.Test.YtacfebnfdmbkaaaBase
import Derived.Test.YtacfebnfdmbkaaaSz
set_option linter.unusedVariables false
set_option linter.unusedSimpArgs false
namespace Go.Proofs.Ytacfebnfdmbkaaa.Pure
open Go.RowKit Go.Proofs.Ytacfebnfdmbkaaa.PFnWords Go.Proofs.YtacfebnfdmbkaaaW.PrintWords Go.Proofs.YtacfebnfdmbkaaaW.PrintLast Go.Proofs.YtacfebnfdmbkaaaW.PrintMore Go.Proofs.Ytacfebnfdmbkaaa.Base
namespace FnWords_
theorem l1In_eq (a b c : Int) : spec_l1In.f a b c = some (inB a b c) := ge_le
theorem within_eq (a b c : Int) : impl_within.f a b c = some (inB a b c) := ge_le
theorem l1Word32_eq (a : Int) : spec_l1Word32.f a = some (isWd a) := by
  unfold spec_l1Word32.f; rw [l1In_eq]; rfl
theorem isWord_eq (a : Int) : impl_isWord.f a = some (isWd a) := by
  unfold impl_isWord.f; rw [within_eq]; rfl
theorem areWords_l0 (l : List Int) (hl : l.length ≤ 4611686018427387904) (d : Nat) : ∀ i : Nat, i + d = l.length → Ev (fun k => impl_areWords.l0 k l (l.length : Int) (i : Int)) ((l.drop i).all isWd) := by
  induction d with
  | zero =>
    intro i h
    rw [List.drop_of_length_le (by omega)]
    exact Ev.ret fun k => by simp only [impl_areWords.l0]; rw [if_neg (by omega)]; rfl
  | succ d ih =>
    intro i h
    have hi : i < l.length := by omega
    rw [List.drop_eq_getElem_cons hi, List.all_cons]
    refine Ev.step (f := fun k => if isWd l[i] = true then impl_areWords.l0 k l (l.length : Int) ((i + 1 : Nat) : Int) else some false) (fun k => ?_) ?_
    · simp only [impl_areWords.l0]
      rw [if_pos (by omega), if_pos (by omega), if_pos (by omega), rd_nat l i hi, isWord_eq, w64 (by omega) (by omega)]; rfl
    · cases e : isWd l[i] with
      | true => simp only [if_true, Bool.true_and]; exact ih (i + 1) (by omega)
      | false => exact Ev.now false
theorem areWords_ev (l : List Int) (hl : l.length ≤ 4611686018427387904) : Ev (fun k => impl_areWords.f k l) (l.all isWd) := areWords_l0 l hl l.length 0 (by omega)
theorem areWords_two (a b : Int) : Ev (fun k => impl_areWords.f k ([a, b] : List Int)) (isWd a && isWd b) := by
  have h := areWords_ev [a, b] (by simp)
  simpa only [List.all_cons, List.all_nil, Bool.and_true] using h
theorem serialGap_eq {a b : Int} (ha : Wd a) (hb : Wd b) : impl_serialGap.f a b = some ((b - a) % 4294967296) := by
  obtain ⟨_, _⟩ := ha
  obtain ⟨_, _⟩ := hb
  unfold impl_serialGap.f
  rw [w64 (x := b - a) (by omega) (by omega), band_mask]
theorem implSerialGap_ev (a b : Int) : Ev (fun k => impl_SerialGap.f k a b) (serGap a b) := by
  unfold impl_SerialGap.f serGap
  refine Ev.bind (areWords_two a b) ?_
  cases ha : isWd a with
  | false => exact Ev.now _
  | true =>
    cases hb : isWd b with
    | false => exact Ev.now _
    | true =>
      simp only [Bool.and_self, if_true, serialGap_eq (isWd_true.1 ha) (isWd_true.1 hb), Option.bind_some]
      exact Ev.now _
theorem l1Add_eq {a b : Int} (ha : Wd a) (hb : Wd b) : spec_l1Add.f a b = some ((a + b) % 4294967296) := by
  obtain ⟨_, _⟩ := ha
  obtain ⟨_, _⟩ := hb
  unfold spec_l1Add.f
  rw [w64 (by omega) (by omega), Int.tmod_eq_emod_of_nonneg (by omega)]
theorem specAddWords_eq (a b : Int) : spec_AddWords.f a b = some (addW a b) := by
  unfold spec_AddWords.f addW
  simp only [l1Word32_eq, Option.bind_some]
  cases ha : isWd a with
  | false => rfl
  | true =>
    cases hb : isWd b with
    | false => rfl
    | true => simp only [if_true, l1Add_eq (isWd_true.1 ha) (isWd_true.1 hb), Option.bind_some, Bool.and_self]
theorem addWords_l0 (l : List Int) (hl : l.length ≤ 4611686018427387904) (hw : ∀ x ∈ l, Wd x) (d : Nat) : ∀ (i : Nat) (s : Int), i + d = l.length → Wd s → Ev (fun k => impl_addWords.l0 k s l (l.length : Int) (i : Int)) (sumW s (l.drop i)) := by
  induction d with
  | zero =>
    intro i s h hs
    rw [List.drop_of_length_le (by omega)]
    exact Ev.ret fun k => by simp only [impl_addWords.l0]; rw [if_neg (by omega)]; rfl
  | succ d ih =>
    intro i s h hs
    have hi : i < l.length := by omega
    have hx := hw _ (List.getElem_mem hi)
    rw [List.drop_eq_getElem_cons hi]
    refine Ev.step (f := fun k => impl_addWords.l0 k ((s + l[i]) % 4294967296) l (l.length : Int) ((i + 1 : Nat) : Int)) (fun k => ?_) (ih (i + 1) _ (by omega) (Wd.mod _))
    obtain ⟨_, _⟩ := hx
    obtain ⟨_, _⟩ := hs
    simp only [impl_addWords.l0]
    rw [if_pos (by omega), if_pos (by omega), if_pos (by omega), rd_nat l i hi, w64 (x := s + l[i]) (by omega) (by omega), band_mask, w64 (by omega) (by omega)]; rfl
theorem addWords_ev (l : List Int) (hl : l.length ≤ 4611686018427387904) (hw : ∀ x ∈ l, Wd x) : Ev (fun k => impl_addWords.f k l) (sumW 0 l) := addWords_l0 l hl hw l.length 0 0 (by omega) ⟨by decide, by decide⟩
theorem addWords_two {a b : Int} (ha : Wd a) (hb : Wd b) : Ev (fun k => impl_addWords.f k ([a, b] : List Int)) ((a + b) % 4294967296) := by
  have h := addWords_ev [a, b] (by simp) (by intro x hx; simp at hx; rcases hx with rfl | rfl <;> assumption)
  have e : sumW 0 [a, b] = (a + b) % 4294967296 := by
    simp only [sumW, List.foldl_cons, List.foldl_nil]; omega
  rwa [e] at h
theorem implAddWords_ev (a b : Int) : Ev (fun k => impl_AddWords.f k a b) (addW a b) := by
  unfold impl_AddWords.f addW
  refine Ev.bind (areWords_two a b) ?_
  cases ha : isWd a with
  | false => exact Ev.now _
  | true =>
    cases hb : isWd b with
    | false => exact Ev.now _
    | true =>
      simp only [Bool.and_self, if_true]
      exact Ev.bind (addWords_two (isWd_true.1 ha) (isWd_true.1 hb)) (Ev.now _)
theorem l1Pow_l0 (n : Nat) : ∀ (m : Nat), n + m ≤ 40 → Ev (fun k => spec_l1Pow.l0 k (n : Int) ((2 ^ m : Nat) : Int)) ((2 ^ (n + m) : Nat) : Int) := by
  induction n with
  | zero =>
    intro m _
    exact Ev.ret fun k => by simp only [spec_l1Pow.l0]; rw [if_neg (by omega), Nat.zero_add]
  | succ n ih =>
    intro m hm
    have hp : (2 : Nat) ^ m ≤ 2 ^ 40 := Nat.pow_le_pow_right (by decide) (by omega)
    have hp0 : 0 < (2 : Nat) ^ m := Nat.two_pow_pos m
    refine Ev.step (f := fun k => spec_l1Pow.l0 k (n : Int) ((2 ^ (m + 1) : Nat) : Int)) (fun k => ?_) ?_
    · simp only [spec_l1Pow.l0]
      rw [if_pos (by omega), w64 (by omega) (by omega), w64 (by omega) (by omega)]
      have e1 : ((n + 1 : Nat) : Int) - 1 = (n : Int) := by omega
      have e2 : ((2 ^ m : Nat) : Int) * 2 = ((2 ^ (m + 1) : Nat) : Int) := by rw [Nat.pow_succ]; omega
      rw [e1, e2]
    · have := ih (m + 1) (by omega)
      rwa [show n + (m + 1) = n + 1 + m by omega] at this
theorem l1Pow_ev (n : Nat) (hn : n ≤ 40) : Ev (fun k => spec_l1Pow.f k (n : Int)) ((2 ^ n : Nat) : Int) := l1Pow_l0 n 0 (by omega)
theorem rot_wrap (A R C : Nat) (hA : A ≤ 4294967295) (hC : C ≤ 4294967296) (hR : R * C ≤ 4294967296) : wrap64 (wrap64 (A : Int) + wrap64 ((R : Int) * wrap64 (C : Int))) = ((A + R * C : Nat) : Int) := by
  rw [w64 (x := (C : Int)) (by omega) (by omega), ← Int.natCast_mul]
  generalize R * C = z at *
  rw [w64 (x := (A : Int)) (by omega) (by omega), w64 (x := (z : Int)) (by omega) (by omega), w64 (by omega) (by omega)]; rfl
theorem l1Rotate_ev {w : Int} (hw : Wd w) (n : Nat) (hn : n ≤ 32) : Ev (fun k => spec_l1Rotate.f k w (n : Int)) (rot w n) := by
  obtain ⟨h0, h1⟩ := hw
  obtain ⟨a, rfl⟩ := Int.eq_ofNat_of_zero_le h0
  have hp : 0 < 2 ^ n := Nat.two_pow_pos n
  have e := two_pow_split hn
  obtain ⟨h2, h3⟩ := rot_nat_lt (a := a) (by omega) hn
  have hq : 2 ^ (32 - n) ≤ 4294967296 := by rw [← e]; exact Nat.le_mul_of_pos_left _ hp
  have hd : a / 2 ^ n ≤ a := Nat.div_le_self _ _
  have d1 : Int.tdiv (a : Int) ((2 ^ n : Nat) : Int) = ((a / 2 ^ n : Nat) : Int) := (Int.ofNat_tdiv _ _).symm
  have d2 : Int.tmod (a : Int) ((2 ^ n : Nat) : Int) = ((a % 2 ^ n : Nat) : Int) := (Int.ofNat_tmod _ _).symm
  have d3 : Int.tdiv (4294967296 : Int) ((2 ^ n : Nat) : Int) = ((2 ^ (32 - n) : Nat) : Int) := by
    have h5 : (4294967296 : Int) = ((4294967296 : Nat) : Int) := rfl
    rw [h5, ← Int.ofNat_tdiv, ← e, Nat.mul_div_cancel_left _ hp]
  have er : rot (a : Int) n = ((a / 2 ^ n + a % 2 ^ n * 2 ^ (32 - n) : Nat) : Int) := by unfold rot; rw [Int.toNat_natCast]
  unfold spec_l1Rotate.f
  refine Ev.bind (l1Pow_ev n (by omega)) ?_
  generalize hP : 2 ^ n = P at *
  refine Ev.neg (show ¬ (P : Int) = 0 by omega) ?_
  rw [d1, d2, d3, rot_wrap _ _ _ (Nat.le_trans hd (by omega)) hq (Nat.le_trans (Nat.le_add_right _ _) h3), er]
  exact Ev.now _
theorem wrap_low (z : Nat) : (((z : Int) + 9223372036854775808) % 18446744073709551616 - 9223372036854775808) % 4294967296 = ((z % 4294967296 : Nat) : Int) := by omega
theorem mod_low (z : Nat) : ((z : Int) % 4294967296).toNat = z % 4294967296 := by omega
theorem rotate_eq {w : Int} (hw : Wd w) (n : Nat) (hn : n ≤ 32) : impl_rotate.f w (n : Int) = some (rot w n) := by
  obtain ⟨h0, h1⟩ := hw
  obtain ⟨a, rfl⟩ := Int.eq_ofNat_of_zero_le h0
  have two : ((2 : Nat) : Int) = 2 := rfl
  have ew : wrap64 (32 - (n : Int)) = ((32 - n : Nat) : Int) := by rw [w64 (by omega) (by omega)]; omega
  have es : shr .i64 (a : Int) (n : Int) = ((a / 2 ^ n : Nat) : Int) := by
    unfold shr
    rw [Int.toNat_natCast, Nat.min_eq_left (show n ≤ IntKind.i64.bits by show n ≤ 64; omega), Int.natCast_ediv, Int.natCast_pow, two]
  have el : shl .i64 (a : Int) ((32 - n : Nat) : Int) % 4294967296 = ((a * 2 ^ (32 - n) % 4294967296 : Nat) : Int) := by
    unfold shl
    have h5 : (a : Int) * 2 ^ (32 - n) = ((a * 2 ^ (32 - n) : Nat) : Int) := by rw [Int.natCast_mul, Int.natCast_pow, two]
    rw [Int.toNat_natCast, Nat.min_eq_left (show 32 - n ≤ IntKind.i64.bits by show 32 - n ≤ 64; omega), IntKind.wrap_i64, h5]
    exact wrap_low _
  have h := rot_or (a := a) (n := n) (by omega) hn
  have t1 : (((a / 2 ^ n : Nat) : Int) % 4294967296).toNat = (a / 2 ^ n) % 4294967296 := mod_low _
  unfold impl_rotate.f
  rw [if_pos (show 0 ≤ (n : Int) by omega), ew, if_pos (show 0 ≤ ((32 - n : Nat) : Int) by omega), band_mask, bor_mask, es, el, t1, Int.toNat_natCast, h]
  unfold rot
  rw [Int.toNat_natCast]
theorem specRotateWord_ev (w n : Int) : Ev (fun k => spec_RotateWord.f k w n) (rotW w n) := by
  unfold spec_RotateWord.f rotW
  simp only [l1Word32_eq, l1In_eq, Option.bind_some]
  cases ha : isWd w with
  | false => exact Ev.now _
  | true =>
    cases hb : inB n 0 31 with
    | false => exact Ev.now _
    | true =>
      simp only [if_true, Bool.and_self]
      have h := inB_true.1 hb
      obtain ⟨m, rfl⟩ := Int.eq_ofNat_of_zero_le h.1
      exact Ev.bind (l1Rotate_ev (isWd_true.1 ha) m (by omega)) (Ev.now _)
theorem implRotateWord_eq (w n : Int) : impl_RotateWord.f w n = some (rotW w n) := by
  unfold impl_RotateWord.f rotW
  simp only [isWord_eq, within_eq, Option.bind_some]
  cases ha : isWd w with
  | false => rfl
  | true =>
    cases hb : inB n 0 31 with
    | false => rfl
    | true =>
      simp only [if_true, Bool.and_self]
      have h := inB_true.1 hb
      obtain ⟨m, rfl⟩ := Int.eq_ofNat_of_zero_le h.1
      rw [rotate_eq (isWd_true.1 ha) m (by omega)]; rfl
theorem l1At_eq {l : List Int} (hb : Bytes l) (hl : l.length ≤ 4611686018427387904) {i : Int} (h0 : 0 ≤ i) (h1 : i + 4 ≤ (l.length : Int)) : spec_l1At.f l i = some (at4 l i) := by
  unfold spec_l1At.f
  rw [w64 (x := i + 1) (by omega) (by omega), w64 (x := i + 2) (by omega) (by omega), w64 (x := i + 3) (by omega) (by omega)]
  rw [if_pos (by omega), if_pos (by omega), if_pos (by omega), if_pos (by omega), if_pos (by omega), if_pos (by omega), if_pos (by omega), if_pos (by omega)]
  have b0 := hb.rd i
  have b1 := hb.rd (i + 1)
  have b2 := hb.rd (i + 2)
  have b3 := hb.rd (i + 3)
  rw [w64 (x := rd l i) (by omega) (by omega), w64 (x := rd l (i + 1)) (by omega) (by omega), w64 (x := rd l (i + 2)) (by omega) (by omega), w64 (x := rd l (i + 3)) (by omega) (by omega)]
  rw [w64 (x := rd l i * 16777216) (by omega) (by omega), w64 (x := rd l (i + 1) * 65536) (by omega) (by omega), w64 (x := rd l (i + 2) * 256) (by omega) (by omega)]
  rw [w64 (x := rd l i * 16777216 + rd l (i + 1) * 65536) (by omega) (by omega), w64 (x := rd l i * 16777216 + rd l (i + 1) * 65536 + rd l (i + 2) * 256) (by omega) (by omega), w64 (by omega) (by omega)]
  rfl
theorem wordAt_eq {l : List Int} (hb : Bytes l) (hl : l.length ≤ 4611686018427387904) {i : Int} (h0 : 0 ≤ i) (h1 : i + 4 ≤ (l.length : Int)) : impl_wordAt.f l i = some (at4 l i) := by
  unfold impl_wordAt.f
  rw [w64 (x := i + 1) (by omega) (by omega), w64 (x := i + 2) (by omega) (by omega), w64 (x := i + 3) (by omega) (by omega)]
  rw [if_pos (by omega), if_pos (by omega), if_pos (by omega), if_pos (by omega), if_pos (by omega), if_pos (by omega), if_pos (by omega), if_pos (by omega)]
  have b0 := hb.rd i
  have b1 := hb.rd (i + 1)
  have b2 := hb.rd (i + 2)
  have b3 := hb.rd (i + 3)
  rw [w64 (x := rd l i) (by omega) (by omega), w64 (x := rd l (i + 1)) (by omega) (by omega), w64 (x := rd l (i + 2)) (by omega) (by omega), w64 (x := rd l (i + 3)) (by omega) (by omega)]
  rw [w64 (x := rd l i * 16777216) (by omega) (by omega), w64 (x := rd l (i + 1) * 65536) (by omega) (by omega), w64 (x := rd l (i + 2) * 256) (by omega) (by omega)]
  rw [bor_add (x := rd l i * 16777216) (y := rd l (i + 1) * 65536) 24 (by omega) (by omega) (by omega) (by omega) (by omega) (by omega), bor_add (x := rd l i * 16777216 + rd l (i + 1) * 65536) (y := rd l (i + 2) * 256) 16 (by omega) (by omega) (by omega) (by omega) (by omega) (by omega), bor_add (x := rd l i * 16777216 + rd l (i + 1) * 65536 + rd l (i + 2) * 256) 8 (by omega) (by omega) (by omega) (by omega) (by omega) (by omega)]
  rfl
theorem specWordAt_eq {l : List Int} (hb : Bytes l) (hl : l.length ≤ 4611686018427387904) (i : Int) : spec_WordAt.f l i = some (wdAt l i) := by
  unfold spec_WordAt.f wdAt
  rw [w64 (by omega) (by omega), l1In_eq]
  simp only [Option.bind_some]
  by_cases h : inB i 0 ((l.length : Int) - 4) = true
  · have h2 := inB_true.1 h
    rw [if_pos h, if_pos h, l1At_eq hb hl h2.1 (by omega)]; rfl
  · rw [if_neg h, if_neg h]
theorem implWordAt_eq {l : List Int} (hb : Bytes l) (hl : l.length ≤ 4611686018427387904) (i : Int) : impl_WordAt.f l i = some (wdAt l i) := by
  unfold impl_WordAt.f wdAt
  rw [w64 (by omega) (by omega), within_eq]
  simp only [Option.bind_some]
  by_cases h : inB i 0 ((l.length : Int) - 4) = true
  · have h2 := inB_true.1 h
    rw [if_pos h, if_pos h, wordAt_eq hb hl h2.1 (by omega)]; rfl
  · rw [if_neg h, if_neg h]
theorem l1Pack_eq {w : Int} (hw : Wd w) : spec_l1Pack.f w = some (pack4 w) := by
  obtain ⟨_, _⟩ := hw
  unfold spec_l1Pack.f pack4
  rw [Int.tdiv_eq_ediv_of_nonneg (by omega), Int.tdiv_eq_ediv_of_nonneg (by omega), Int.tdiv_eq_ediv_of_nonneg (by omega), w64 (x := w / 16777216) (by omega) (by omega), w64 (x := w / 65536) (by omega) (by omega), w64 (x := w / 256) (by omega) (by omega), Int.tmod_eq_emod_of_nonneg (by omega), Int.tmod_eq_emod_of_nonneg (by omega), Int.tmod_eq_emod_of_nonneg (by omega)]
  simp only [Int.emod_emod]
theorem four_eq (w : Int) : impl_four.f w = some (pack4 w) := rfl
theorem specPackWord_eq (w : Int) : spec_PackWord.f w = some (packW w) := by
  unfold spec_PackWord.f packW
  rw [l1Word32_eq]
  simp only [Option.bind_some]
  by_cases h : isWd w = true
  · rw [if_pos h, if_pos h, l1Pack_eq (isWd_true.1 h)]; rfl
  · rw [if_neg h, if_neg h]
theorem implPackWord_eq (w : Int) : impl_PackWord.f w = some (packW w) := by
  unfold impl_PackWord.f packW
  rw [isWord_eq]
  simp only [Option.bind_some]
  by_cases h : isWd w = true
  · rw [if_pos h, if_pos h, four_eq]; rfl
  · rw [if_neg h, if_neg h]
theorem lwBig_eq (l : List Int) : laws_lwBig.f l = some (decide ((l.length : Int) > 1048576)) := rfl
theorem l1Next_ok {c : List Int} (hb : Bytes c) (hl : c.length ≤ 1048576) {s : Int} (h0 : 0 ≤ s) (h1 : s ≤ 1073741824) {n : Int} (hn : 1 ≤ n) : ∃ v, spec_l1Next.f c s n = some (v, s + 1) ∧ 0 ≤ v ∧ v < n := by
  unfold spec_l1Next.f
  have e1 : wrap64 (s + 1) = s + 1 := w64 (by omega) (by omega)
  have e2 : wrap64 (s + 1 - 1) = s := by rw [w64 (by omega) (by omega)]; omega
  have e3 : wrap64 (s + 2) = s + 2 := w64 (by omega) (by omega)
  simp only [e1, e2, e3]
  rw [if_neg (show ¬ n < 1 by omega)]
  have fin : ∀ X : Int, 0 ≤ X → ∃ v, (if n = 0 then none else some (Int.tmod X n, s + 1)) = some (v, s + 1) ∧ 0 ≤ v ∧ v < n := fun X hX => ⟨Int.tmod X n, by rw [if_neg (by omega)], Int.tmod_nonneg _ hX, Int.tmod_lt_of_pos _ (by omega)⟩
  by_cases hz : (c.length : Int) = 0
  · rw [if_pos hz]
    exact fin _ (by rw [w64 (by omega) (by omega)]; omega)
  · rw [if_neg hz]
    have ix : ∀ t : Int, 0 ≤ t → 0 ≤ Int.tmod t (c.length : Int) ∧ Int.tmod t (c.length : Int) < (c.length : Int) := fun t ht => ⟨Int.tmod_nonneg _ ht, Int.tmod_lt_of_pos _ (by omega)⟩
    rw [if_pos (ix s h0).1, if_pos (ix s h0).2, if_pos (ix (s + 1) (by omega)).1, if_pos (ix (s + 1) (by omega)).2, if_pos (ix (s + 2) (by omega)).1, if_pos (ix (s + 2) (by omega)).2]
    have q0 : 0 ≤ Int.tdiv s (c.length : Int) := Int.tdiv_nonneg h0 (by omega)
    have q1 : Int.tdiv s (c.length : Int) ≤ s := by
      rw [Int.tdiv_eq_ediv_of_nonneg h0]; exact Int.ediv_le_self _ h0
    have b0 := hb.rd (Int.tmod s (c.length : Int))
    have b1 := hb.rd (Int.tmod (s + 1) (c.length : Int))
    have b2 := hb.rd (Int.tmod (s + 2) (c.length : Int))
    generalize rd c (Int.tmod s (c.length : Int)) = x0 at *
    generalize rd c (Int.tmod (s + 1) (c.length : Int)) = x1 at *
    generalize rd c (Int.tmod (s + 2) (c.length : Int)) = x2 at *
    generalize Int.tdiv s (c.length : Int) = q at *
    have v0 : wrap64 (wrap64 x0 + wrap64 (wrap64 q * 37)) = x0 + q * 37 := by
      rw [w64 (x := x0) (by omega) (by omega), w64 (x := q) (by omega) (by omega), w64 (x := q * 37) (by omega) (by omega), w64 (by omega) (by omega)]
    have v1 : wrap64 (wrap64 (wrap64 ((x0 + q * 37) * 251) + wrap64 (wrap64 x1 * 13)) + s) = (x0 + q * 37) * 251 + x1 * 13 + s := by
      rw [w64 (x := x1) (by omega) (by omega), w64 (x := x1 * 13) (by omega) (by omega), w64 (x := (x0 + q * 37) * 251) (by omega) (by omega), w64 (x := (x0 + q * 37) * 251 + x1 * 13) (by omega) (by omega), w64 (by omega) (by omega)]
    have v2 : ∀ y : Int, 0 ≤ y → y ≤ 1152921504606846 → 0 ≤ wrap64 (wrap64 (y * 257) + wrap64 x2) := by
      intro y hy hy1
      rw [w64 (x := x2) (by omega) (by omega), w64 (x := y * 257) (by omega) (by omega), w64 (by omega) (by omega)]; omega
    simp only [v0, v1]
    by_cases ha : n > 200
    · rw [if_pos ha]
      by_cases hc : n > 60000
      · rw [if_pos hc]; exact fin _ (v2 _ (by omega) (by omega))
      · rw [if_neg hc]; exact fin _ (by omega)
    · rw [if_neg ha, if_neg (show ¬ n > 60000 by omega)]; exact fin _ (by omega)
theorem l1Pick_ok {c : List Int} (hb : Bytes c) (hl : c.length ≤ 1048576) {s : Int} (h0 : 0 ≤ s) (h1 : s ≤ 1073741824) (l : List Int) (hn : 1 ≤ l.length) : ∃ v, spec_l1Pick.f c s l = some (v, s + 1) ∧ v ∈ l := by
  obtain ⟨v, hv, v0, v1⟩ := l1Next_ok hb hl h0 h1 (n := (l.length : Int)) (by omega)
  refine ⟨rd l v, ?_, rd_mem l v v0 v1⟩
  unfold spec_l1Pick.f
  rw [hv]; simp only [Option.bind_some]
  rw [if_pos v0, if_pos v1]
theorem l1Source_eq (c : List Int) : spec_l1Source.f c = some (c, 0) := rfl
theorem l1Some_l0 {c : List Int} (hb : Bytes c) (hl : c.length ≤ 1048576) (n : Nat) : ∀ (s : Int) (x : List Int), 0 ≤ s → s + n ≤ 1073741824 → Bytes x → x.length + n ≤ 1000000 → ∃ l, Ev (fun k => spec_l1Some.l0 k (n : Int) x c s) (l, s + n) ∧ Bytes l ∧ l.length = x.length + n := by
  induction n with
  | zero =>
    intro s x h0 h1 hx hn
    refine ⟨x, Ev.ret fun k => ?_, hx, rfl⟩
    simp only [spec_l1Some.l0]; rw [if_neg (by omega)]; simp
  | succ n ih =>
    intro s x h0 h1 hx hn
    obtain ⟨v, hv, v0, v1⟩ := l1Next_ok hb hl h0 (by omega) (n := 256) (by omega)
    have hx2 : Bytes (x ++ [v % 256]) := hx.append (fun y hy => by rw [List.mem_singleton.1 hy]; omega)
    obtain ⟨l, hl1, hl2, hl3⟩ := ih (s + 1) (x ++ [v % 256]) (by omega) (by omega) hx2 (by rw [List.length_append, List.length_singleton]; omega)
    refine ⟨l, ?_, hl2, by rw [hl3, List.length_append, List.length_singleton]; omega⟩
    have e : s + ((n + 1 : Nat) : Int) = s + 1 + (n : Int) := by omega
    rw [e]
    refine Ev.step (fun k => ?_) hl1
    simp only [spec_l1Some.l0]
    rw [if_pos (by omega), hv]; simp only [Option.bind_some]
    rw [if_pos (by omega), w64 (by omega) (by omega)]
    have e2 : ((n + 1 : Nat) : Int) - 1 = (n : Int) := by omega
    rw [e2]
theorem l1Some_ok {c : List Int} (hb : Bytes c) (hl : c.length ≤ 1048576) {s n : Int} (h0 : 0 ≤ s) (h1 : s ≤ 1000000000) (hn0 : 0 ≤ n) (hn : n ≤ 1000000) : ∃ l, Ev (fun k => spec_l1Some.f k c s n) (l, s + n) ∧ Bytes l ∧ (l.length : Int) = n := by
  obtain ⟨m, rfl⟩ := Int.eq_ofNat_of_zero_le hn0
  obtain ⟨l, h2, h3, h4⟩ := l1Some_l0 hb hl m s [] h0 (by omega) Bytes.nil (by simp; omega)
  refine ⟨l, ?_, h3, by simp at h4; omega⟩
  unfold spec_l1Some.f
  exact h2
theorem l1Draw_ok {c : List Int} (hb : Bytes c) (hl : c.length ≤ 1048576) {s : Int} (h0 : 0 ≤ s) (h1 : s ≤ 1000000000) : ∃ v, spec_l1Draw.f c s = some (v, s + 4) ∧ Wd v := by
  unfold spec_l1Draw.f
  obtain ⟨a, ha, a0, a1⟩ := l1Next_ok hb hl h0 (by omega) (n := 300) (by omega)
  obtain ⟨b, hb1, b0, b1⟩ := l1Next_ok hb hl (s := s + 1) (by omega) (by omega) (n := 60000) (by omega)
  obtain ⟨d, hd, d0, d1⟩ := l1Next_ok hb hl (s := s + 1 + 1) (by omega) (by omega) (n := 60000) (by omega)
  rw [ha]; simp only [Option.bind_some]; rw [hb1]; simp only [Option.bind_some]; rw [hd]; simp only [Option.bind_some]
  obtain ⟨v, hv, hm⟩ := l1Pick_ok hb hl (s := s + 1 + 1 + 1) (by omega) (by omega) [0, 1, 2, 4294967295, 4294967294, 2147483647, 2147483648, a, Int.tmod (wrap64 (b * 70001)) 4294967296, wrap64 (d * 65537)] (by simp)
  rw [hv]
  refine ⟨v, by simp only [Option.bind_some]; rw [show s + 1 + 1 + 1 + 1 = s + 4 by omega], ?_⟩
  have w1 : wrap64 (b * 70001) = b * 70001 := w64 (by omega) (by omega)
  have w2 : wrap64 (d * 65537) = d * 65537 := w64 (by omega) (by omega)
  rw [w1, w2, Int.tmod_eq_emod_of_nonneg (by omega)] at hm
  simp only [List.mem_cons, List.not_mem_nil, or_false] at hm
  unfold Wd
  rcases hm with rfl | rfl | rfl | rfl | rfl | rfl | rfl | rfl | rfl | rfl <;> omega
theorem l1Bent_ok {c : List Int} (hb : Bytes c) (hl : c.length ≤ 1048576) {s : Int} (h0 : 0 ≤ s) (h1 : s ≤ 999999000) : ∃ v, spec_l1Bent.f c s = some (v, s + 29) ∧ -1 ≤ v ∧ v ≤ 4294967296 := by
  unfold spec_l1Bent.f
  obtain ⟨a, ha, a0, a1⟩ := l1Draw_ok hb hl h0 (by omega)
  obtain ⟨b, hb1, b0, b1⟩ := l1Draw_ok hb hl (s := s + 4) (by omega) (by omega)
  obtain ⟨d, hd, d0, d1⟩ := l1Draw_ok hb hl (s := s + 4 + 4) (by omega) (by omega)
  obtain ⟨e, he, e0, e1⟩ := l1Draw_ok hb hl (s := s + 4 + 4 + 4) (by omega) (by omega)
  obtain ⟨f, hf, f0, f1⟩ := l1Draw_ok hb hl (s := s + 4 + 4 + 4 + 4) (by omega) (by omega)
  obtain ⟨g, hg, g0, g1⟩ := l1Draw_ok hb hl (s := s + 4 + 4 + 4 + 4 + 4) (by omega) (by omega)
  obtain ⟨i, hi, i0, i1⟩ := l1Draw_ok hb hl (s := s + 4 + 4 + 4 + 4 + 4 + 4) (by omega) (by omega)
  rw [ha]; simp only [Option.bind_some]; rw [hb1]; simp only [Option.bind_some]; rw [hd]; simp only [Option.bind_some]; rw [he]; simp only [Option.bind_some]; rw [hf]; simp only [Option.bind_some]; rw [hg]; simp only [Option.bind_some]; rw [hi]; simp only [Option.bind_some]
  obtain ⟨v, hv, hm⟩ := l1Pick_ok hb hl (s := s + 4 + 4 + 4 + 4 + 4 + 4 + 4) (by omega) (by omega) [a, b, d, e, f, g, i, -1, 4294967296] (by simp)
  rw [hv]
  refine ⟨v, by simp only [Option.bind_some]; rw [show s + 4 + 4 + 4 + 4 + 4 + 4 + 4 + 1 = s + 29 by omega], ?_⟩
  simp only [List.mem_cons, List.not_mem_nil, or_false] at hm
  rcases hm with rfl | rfl | rfl | rfl | rfl | rfl | rfl | rfl | rfl <;> omega
theorem DrawAddWords_ok {c : List Int} (hb : Bytes c) (hl : c.length ≤ 1048576) : ∃ a b, spec_DrawAddWords.f c = some (a, b) := by
  unfold spec_DrawAddWords.f
  rw [l1Source_eq]; simp only [Option.bind_some]
  obtain ⟨a, ha, a0, a1⟩ := l1Bent_ok hb hl (s := 0) (by omega) (by omega)
  obtain ⟨b, hb1, b0, b1⟩ := l1Bent_ok hb hl (s := 0 + 29) (by omega) (by omega)
  exact ⟨a, b, by rw [ha]; simp only [Option.bind_some]; rw [hb1]; rfl⟩
theorem DrawRotateWord_ok {c : List Int} (hb : Bytes c) (hl : c.length ≤ 1048576) : ∃ a b, spec_DrawRotateWord.f c = some (a, b) := by
  unfold spec_DrawRotateWord.f
  rw [l1Source_eq]; simp only [Option.bind_some]
  obtain ⟨a, ha, a0, a1⟩ := l1Bent_ok hb hl (s := 0) (by omega) (by omega)
  obtain ⟨x, hx, x0, x1⟩ := l1Next_ok hb hl (s := 0 + 29) (by omega) (by omega) (n := 32) (by omega)
  obtain ⟨y, hy, y0, y1⟩ := l1Next_ok hb hl (s := 0 + 29 + 1) (by omega) (by omega) (n := 32) (by omega)
  obtain ⟨n, hn, nm⟩ := l1Pick_ok hb hl (s := 0 + 29 + 1 + 1) (by omega) (by omega) [0, 1, 7, 31, x, y, 32, -1] (by simp)
  exact ⟨a, n, by rw [ha]; simp only [Option.bind_some]; rw [hx]; simp only [Option.bind_some]; rw [hy]; simp only [Option.bind_some]; rw [hn]; rfl⟩
theorem l1Max_eq (a b : Int) : spec_l1Max.f a b = some (if a > b then a else b) := by
  unfold spec_l1Max.f; split <;> rfl
theorem DrawWordAt_ok {c : List Int} (hb : Bytes c) (hl : c.length ≤ 1048576) : ∃ l i, Ev (fun k => spec_DrawWordAt.f k c) (l, i) ∧ Bytes l ∧ l.length ≤ 9 := by
  unfold spec_DrawWordAt.f
  rw [l1Source_eq]; simp only [Option.bind_some]
  obtain ⟨n, hn, nm⟩ := l1Pick_ok hb hl (s := 0) (by omega) (by omega) [0, 3, 4, 5, 9] (by simp)
  rw [hn]; simp only [Option.bind_some]
  have n0 : 0 ≤ n ∧ n ≤ 9 := by
    simp only [List.mem_cons, List.not_mem_nil, or_false] at nm
    rcases nm with rfl | rfl | rfl | rfl | rfl <;> omega
  obtain ⟨l, h1, h2, h3⟩ := l1Some_ok hb hl (s := 0 + 1) (n := n) (by omega) (by omega) n0.1 (by omega)
  have w3 : wrap64 ((l.length : Int) - 3) = (l.length : Int) - 3 := w64 (by omega) (by omega)
  have w4 : wrap64 ((l.length : Int) - 4) = (l.length : Int) - 4 := w64 (by omega) (by omega)
  have hm : 1 ≤ (if (l.length : Int) - 3 > 1 then (l.length : Int) - 3 else 1) := by split <;> omega
  obtain ⟨x, hx, x0, x1⟩ := l1Next_ok hb hl (s := 0 + 1 + n) (by omega) (by omega) hm
  obtain ⟨i, hi, im⟩ := l1Pick_ok hb hl (s := 0 + 1 + n + 1) (by omega) (by omega) [0, (l.length : Int) - 4, (l.length : Int) - 3, -1, x, 1] (by simp)
  refine ⟨l, i, Ev.bind h1 ?_, h2, by omega⟩
  simp only [w3, w4, l1Max_eq, Option.bind_some]
  rw [hx]; simp only [Option.bind_some]; rw [hi]
  exact Ev.now _
theorem lwBytes_eq {a b : List Int} (ha : Bytes a) (hb : Bytes b) : laws_lwBytes.f a b = some (a == b) := by
  unfold laws_lwBytes.f; rw [strOf_beq ha hb]
theorem FnWords : laws_FnWords.Pure := by
  intro c _ hc1 hc2
  have hb := Bytes.of_wf hc2
  apply Ev.rounds
  unfold laws_FnWords.f
  simp only [lwBig_eq, Option.bind_some]
  by_cases hbig : (c.length : Int) > 1048576
  · simp only [decide_eq_true hbig, if_true]; exact Ev.now _
  simp only [decide_eq_false hbig, Bool.false_eq_true, if_false]
  obtain ⟨a, b, hab⟩ := DrawAddWords_ok hb (show c.length ≤ 1048576 by omega)
  obtain ⟨w, n, hwn⟩ := DrawRotateWord_ok hb (show c.length ≤ 1048576 by omega)
  obtain ⟨l, i, h1, h2, h3⟩ := DrawWordAt_ok hb (show c.length ≤ 1048576 by omega)
  rw [hab]; simp only [Option.bind_some]; rw [hwn]; simp only [Option.bind_some, implRotateWord_eq, implPackWord_eq]
  refine Ev.bind (implAddWords_ev a b) (Ev.bind h1 ?_)
  simp only [implWordAt_eq h2 (show l.length ≤ 4611686018427387904 by omega), specWordAt_eq h2 (show l.length ≤ 4611686018427387904 by omega), specAddWords_eq, specPackWord_eq, Option.bind_some, beq_self_eq_true, Bool.not_true, Bool.or_self, Bool.false_eq_true, if_false, if_true]
  refine Ev.bind (specRotateWord_ev w n) ?_
  simp only [beq_self_eq_true, Bool.not_true, Bool.or_self, Bool.false_eq_true, if_false]
  -- the last part: sums
  have hj3 : Ev (fun k => laws_FnWords.j3 k a b false (addW a b).1 (addW a b).2) true := by
    refine Ev.step (fun k => by simp only [laws_FnWords.j3]; rfl) (Ev.neg (by decide) ?_)
    by_cases hw : (isWd a && isWd b) = true
    · have ha := isWd_true.1 (Bool.and_eq_true_iff.1 hw).1
      have hb2 := isWd_true.1 (Bool.and_eq_true_iff.1 hw).2
      have e1 : addW a b = (0, (a + b) % 4294967296) := by unfold addW; rw [if_pos hw]
      have e2 : addW b a = (0, (a + b) % 4294967296) := by unfold addW; rw [Bool.and_comm, if_pos hw, Int.add_comm]
      have e3 : serGap a ((a + b) % 4294967296) = (0, b) := by
        obtain ⟨_, _⟩ := id ha
        obtain ⟨_, _⟩ := id hb2
        unfold serGap; rw [isWd_true.2 ha, isWd_true.2 (Wd.mod _), Bool.and_self, if_pos rfl]
        congr 1; omega
      rw [e1]
      refine Ev.pos rfl (Ev.bind (implAddWords_ev b a) (Ev.pos ?_ (Ev.bind (implSerialGap_ev _ _) ?_)))
      · rw [e2]; simp
      · rw [e3]; simp only [beq_self_eq_true, Bool.and_self]; exact Ev.now _
    · have e1 : addW a b = (3, 0) := by unfold addW; rw [if_neg hw]
      rw [e1]; exact Ev.neg (by decide) (Ev.now _)
  have hj2 : Ev (fun k => laws_FnWords.j2 k a b false (addW a b).1 (addW a b).2 (packW a).1 (packW a).2) true := by
    refine Ev.step (fun k => by simp only [laws_FnWords.j2]; rfl) (Ev.neg (by decide) ?_)
    by_cases hw : isWd a = true
    · have e1 : packW a = (0, pack4 a) := by unfold packW; rw [if_pos hw]
      have e2 : wdAt (pack4 a) 0 = (0, a) := by
        unfold wdAt
        rw [if_pos (by show inB 0 0 0 = true; decide), at4_pack4 (isWd_true.1 hw)]
      rw [e1]
      refine Ev.pos rfl (Ev.pos (by rfl) ?_)
      rw [implWordAt_eq (pack4_bytes a) (by simp [pack4]), e2]
      simp only [Option.bind_some, beq_self_eq_true, Bool.not_true, Bool.or_self]
      exact hj3
    · have e1 : packW a = (3, []) := by unfold packW; rw [if_neg hw]
      rw [e1]; exact Ev.neg (by decide) hj3
  have hj1 : Ev (fun k => laws_FnWords.j1 k a b w n false (addW a b).1 (addW a b).2 (rotW w n).1 (rotW w n).2 (packW a).1 (packW a).2) true := by
    refine Ev.step (fun k => by simp only [laws_FnWords.j1]; rfl) (Ev.neg (by decide) ?_)
    by_cases hw : (isWd w && inB n 0 31) = true
    · have hww := isWd_true.1 (Bool.and_eq_true_iff.1 hw).1
      have hn := inB_true.1 (Bool.and_eq_true_iff.1 hw).2
      have e1 : rotW w n = (0, rot w n.toNat) := by unfold rotW; rw [if_pos hw]
      rw [e1]
      refine Ev.pos rfl ?_
      by_cases hp : n > 0
      · refine Ev.pos hp ?_
        rw [w64 (by omega) (by omega)]
        have e2 : rotW (rot w n.toNat) (32 - n) = (0, w) := by
          unfold rotW
          rw [isWd_true.2 (hww.rot (by omega)), inB_true.2 (by omega), Bool.and_self, if_pos rfl, show (32 - n).toNat = 32 - n.toNat by omega, rot_back hww (by omega) (by omega)]
        simp only [implRotateWord_eq, Option.bind_some, e2, beq_self_eq_true, Bool.not_true, Bool.or_self]
        exact hj2
      · exact Ev.neg hp hj2
    · have e1 : rotW w n = (3, 0) := by unfold rotW; rw [if_neg hw]
      rw [e1]; exact Ev.neg (by decide) hj2
  refine Ev.step (fun k => by simp only [laws_FnWords.j0]; rfl) (Ev.neg (by decide) ?_)
  by_cases hw : inB i 0 ((l.length : Int) - 4) = true
  · have hi := inB_true.1 hw
    have e1 : wdAt l i = (0, at4 l i) := by unfold wdAt; rw [if_pos hw]
    rw [e1]
    refine Ev.pos rfl ?_
    obtain ⟨j, rfl⟩ := Int.eq_ofNat_of_zero_le hi.1
    have e2 : packW (at4 l (j : Int)) = (0, (l.take (j + 4)).drop j) := by
      unfold packW; rw [if_pos (isWd_true.2 (h2.at4 _)), pack4_at4 h2 j (by omega)]
    have e3 : wrap64 ((j : Int) + 4) = ((j + 4 : Nat) : Int) := by rw [w64 (by omega) (by omega)]; rfl
    simp only [implPackWord_eq, Option.bind_some, e2, e3, Int.toNat_natCast, lwBytes_eq ((h2.take (j + 4)).drop j) ((h2.take (j + 4)).drop j), beq_self_eq_true, Bool.not_true]
    exact Ev.pos (by omega) (Ev.pos (by omega) (Ev.pos (by omega) hj1))
  · have e1 : wdAt l i = (3, 0) := by unfold wdAt; rw [if_neg hw]
    rw [e1]; exact Ev.neg (by decide) hj1
end FnWords_
theorem FnWords : laws_FnWords.Pure := FnWords_.FnWords
end Go.Proofs.Ytacfebnfdmbkaaa.Pure
