/- The pure statement of FnMacs: what the printed functions of the program and of the reference compute makes the law answer true, for all arguments (each number of its kind). -/
import Derived.Test.YtceobpekmladdaaPFnMacsx11
import Derived.Test.YtceobpekmladdaaUFnMacsBase
import Derived.Test.YtceobpekmladdaaUFnMacsSz
set_option linter.unusedVariables false
set_option linter.unusedSimpArgs false
namespace Go.Proofs.Ytceobpekmladdaa.Pure
open Go.RowKit Go.Proofs.Ytceobpekmladdaa.PFnMacs Go.Proofs.YtceobpekmladdaaW.PrintWords Go.Proofs.YtceobpekmladdaaW.PrintLast Go.Proofs.YtceobpekmladdaaW.PrintMore Go.Proofs.Ytceobpekmladdaa.Base
namespace FnMacs_
theorem slicesEqualB_l0 (l m : List Int) (e : l.length = m.length) (hl : l.length ≤ 4611686018427387904) (d : Nat) : ∀ i : Nat, i + d = l.length → Ev (fun k => slices_Equal_byte_byte.l0 k l m (l.length : Int) (i : Int)) (l.drop i == m.drop i) := by
 induction d with
 | zero =>
  intro i h
  rw [List.drop_of_length_le (by omega), List.drop_of_length_le (by omega)]
  exact Ev.ret fun k => by simp only [slices_Equal_byte_byte.l0]; rw [if_neg (by omega)]; rfl
 | succ d ih =>
  intro i h
  have hi : i < l.length := by omega
  have hm : i < m.length := by omega
  rw [List.drop_eq_getElem_cons hi, List.drop_eq_getElem_cons hm]
  refine Ev.step (f := fun k => if l[i] = m[i] then slices_Equal_byte_byte.l0 k l m (l.length : Int) ((i + 1 : Nat) : Int) else some false) (fun k => ?_) ?_
  ·
   simp only [slices_Equal_byte_byte.l0]
   rw [if_pos (by omega), if_pos (by omega), if_pos (by omega), if_pos (by omega), rd_nat l i hi, rd_nat m i hm, w64 (by omega) (by omega)]; rfl
  ·
   by_cases c : l[i] = m[i]
   · simp only [if_pos c, List.cons_beq_cons, beq_iff_eq.2 c, Bool.true_and]; exact ih (i + 1) (by omega)
   ·
    have c' : (l[i] == m[i]) = false := by simpa using c
    simp only [if_neg c, List.cons_beq_cons, c', Bool.false_and]; exact Ev.now _
theorem slicesEqualB_ev (l m : List Int) (hl : l.length ≤ 4611686018427387904) : Ev (fun k => slices_Equal_byte_byte.f k l m) (l == m) := by
 unfold slices_Equal_byte_byte.f
 by_cases e : l.length = m.length
 ·
  simp only [if_pos (show (l.length : Int) = (m.length : Int) by omega)]
  have := slicesEqualB_l0 l m e hl l.length 0 (by omega)
  rw [List.drop_zero, List.drop_zero] at this
  exact this
 ·
  simp only [if_neg (show ¬ (l.length : Int) = (m.length : Int) by omega)]
  have : (l == m) = false := by
   rw [beq_eq_false_iff_ne]; intro h; exact e (by rw [h])
  rw [this]; exact Ev.now _
theorem specSameMac_eq {a b : List Int} (ha : Bytes a) (hb : Bytes b) : spec_SameMac.f a b = some (sameMac a b) := by
 unfold spec_SameMac.f sameMac
 rw [strOf_beq ha hb]
 by_cases h : a.length = 32
 · rw [if_pos (by omega), decide_eq_true h, Bool.true_and]
 · rw [if_neg (by omega), decide_eq_false h, Bool.false_and]
theorem implSameMac_ev (a b : List Int) (hl : a.length ≤ 4611686018427387904) : Ev (fun k => impl_SameMac.f k a b) (sameMac a b) := by
 unfold impl_SameMac.f sameMac
 by_cases h : a.length = 32
 ·
  simp only [if_pos (show (a.length : Int) = 32 by omega), decide_eq_true h, Bool.true_and]
  exact Ev.bind (slicesEqualB_ev a b hl) (Ev.now _)
 ·
  simp only [if_neg (show ¬ (a.length : Int) = 32 by omega), decide_eq_false h, Bool.false_and]
  exact Ev.now _
theorem l1Add_eq {a b : Int} (ha : Wd a) (hb : Wd b) : spec_l1Add.f a b = some ((a + b) % 4294967296) := by
 obtain ⟨_, _⟩ := ha
 obtain ⟨_, _⟩ := hb
 unfold spec_l1Add.f
 rw [w64 (by omega) (by omega), Int.tmod_eq_emod_of_nonneg (by omega)]
theorem addWords_l0 (l : List Int) (hl : l.length ≤ 4611686018427387904) (hw : ∀ x ∈ l, Wd x) (d : Nat) : ∀ (i : Nat) (s : Int), i + d = l.length → Wd s → Ev (fun k => impl_addWords.l0 k s l (l.length : Int) (i : Int)) (sumW s (l.drop i)) := by
 induction d with
 | zero =>
  intro i s h hs
  rw [List.drop_of_length_le (by omega)]
  exact Ev.ret fun k => by simp only [impl_addWords.l0]; rw [if_neg (by omega)]; rfl
 | succ d ih =>
  intro i s h hs
  have hi : i < l.length := by omega
  have hx := hw _ (List.getElem_mem hi)
  rw [List.drop_eq_getElem_cons hi]
  refine Ev.step (f := fun k => impl_addWords.l0 k ((s + l[i]) % 4294967296) l (l.length : Int) ((i + 1 : Nat) : Int)) (fun k => ?_) (ih (i + 1) _ (by omega) (Wd.mod _))
  obtain ⟨_, _⟩ := hx
  obtain ⟨_, _⟩ := hs
  simp only [impl_addWords.l0]
  rw [if_pos (by omega), if_pos (by omega), if_pos (by omega), rd_nat l i hi, w64 (x := s + l[i]) (by omega) (by omega), band_mask, w64 (by omega) (by omega)]; rfl
theorem addWords_ev (l : List Int) (hl : l.length ≤ 4611686018427387904) (hw : ∀ x ∈ l, Wd x) : Ev (fun k => impl_addWords.f k l) (sumW 0 l) := addWords_l0 l hl hw l.length 0 0 (by omega) ⟨by decide, by decide⟩
theorem addWords_two {a b : Int} (ha : Wd a) (hb : Wd b) : Ev (fun k => impl_addWords.f k ([a, b] : List Int)) ((a + b) % 4294967296) := by
 have h := addWords_ev [a, b] (by simp) (by intro x hx; simp at hx; rcases hx with rfl | rfl <;> assumption)
 have e : sumW 0 [a, b] = (a + b) % 4294967296 := by
  simp only [sumW, List.foldl_cons, List.foldl_nil]; omega
 rwa [e] at h
theorem l1Pow_l0 (n : Nat) : ∀ (m : Nat), n + m ≤ 40 → Ev (fun k => spec_l1Pow.l0 k (n : Int) ((2 ^ m : Nat) : Int)) ((2 ^ (n + m) : Nat) : Int) := by
 induction n with
 | zero =>
  intro m _
  exact Ev.ret fun k => by simp only [spec_l1Pow.l0]; rw [if_neg (by omega), Nat.zero_add]
 | succ n ih =>
  intro m hm
  have hp : (2 : Nat) ^ m ≤ 2 ^ 40 := Nat.pow_le_pow_right (by decide) (by omega)
  have hp0 : 0 < (2 : Nat) ^ m := Nat.two_pow_pos m
  refine Ev.step (f := fun k => spec_l1Pow.l0 k (n : Int) ((2 ^ (m + 1) : Nat) : Int)) (fun k => ?_) ?_
  ·
   simp only [spec_l1Pow.l0]
   rw [if_pos (by omega), w64 (by omega) (by omega), w64 (by omega) (by omega)]
   have e1 : ((n + 1 : Nat) : Int) - 1 = (n : Int) := by omega
   have e2 : ((2 ^ m : Nat) : Int) * 2 = ((2 ^ (m + 1) : Nat) : Int) := by rw [Nat.pow_succ]; omega
   rw [e1, e2]
  ·
   have := ih (m + 1) (by omega)
   rwa [show n + (m + 1) = n + 1 + m by omega] at this
theorem l1Pow_ev (n : Nat) (hn : n ≤ 40) : Ev (fun k => spec_l1Pow.f k (n : Int)) ((2 ^ n : Nat) : Int) := l1Pow_l0 n 0 (by omega)
theorem rot_wrap (A R C : Nat) (hA : A ≤ 4294967295) (hC : C ≤ 4294967296) (hR : R * C ≤ 4294967296) : wrap64 (wrap64 (A : Int) + wrap64 ((R : Int) * wrap64 (C : Int))) = ((A + R * C : Nat) : Int) := by
 rw [w64 (x := (C : Int)) (by omega) (by omega), ← Int.natCast_mul]
 generalize R * C = z at *
 rw [w64 (x := (A : Int)) (by omega) (by omega), w64 (x := (z : Int)) (by omega) (by omega), w64 (by omega) (by omega)]; rfl
theorem l1Rotate_ev {w : Int} (hw : Wd w) (n : Nat) (hn : n ≤ 32) : Ev (fun k => spec_l1Rotate.f k w (n : Int)) (rot w n) := by
 obtain ⟨h0, h1⟩ := hw
 obtain ⟨a, rfl⟩ := Int.eq_ofNat_of_zero_le h0
 have hp : 0 < 2 ^ n := Nat.two_pow_pos n
 have e := two_pow_split hn
 obtain ⟨h2, h3⟩ := rot_nat_lt (a := a) (by omega) hn
 have hq : 2 ^ (32 - n) ≤ 4294967296 := by rw [← e]; exact Nat.le_mul_of_pos_left _ hp
 have hd : a / 2 ^ n ≤ a := Nat.div_le_self _ _
 have d1 : Int.tdiv (a : Int) ((2 ^ n : Nat) : Int) = ((a / 2 ^ n : Nat) : Int) := (Int.ofNat_tdiv _ _).symm
 have d2 : Int.tmod (a : Int) ((2 ^ n : Nat) : Int) = ((a % 2 ^ n : Nat) : Int) := (Int.ofNat_tmod _ _).symm
 have d3 : Int.tdiv (4294967296 : Int) ((2 ^ n : Nat) : Int) = ((2 ^ (32 - n) : Nat) : Int) := by
  have h5 : (4294967296 : Int) = ((4294967296 : Nat) : Int) := rfl
  rw [h5, ← Int.ofNat_tdiv, ← e, Nat.mul_div_cancel_left _ hp]
 have er : rot (a : Int) n = ((a / 2 ^ n + a % 2 ^ n * 2 ^ (32 - n) : Nat) : Int) := by unfold rot; rw [Int.toNat_natCast]
 unfold spec_l1Rotate.f
 refine Ev.bind (l1Pow_ev n (by omega)) ?_
 generalize hP : 2 ^ n = P at *
 refine Ev.neg (show ¬ (P : Int) = 0 by omega) ?_
 rw [d1, d2, d3, rot_wrap _ _ _ (Nat.le_trans hd (by omega)) hq (Nat.le_trans (Nat.le_add_right _ _) h3), er]
 exact Ev.now _
theorem wrap_low (z : Nat) : (((z : Int) + 9223372036854775808) % 18446744073709551616 - 9223372036854775808) % 4294967296 = ((z % 4294967296 : Nat) : Int) := by omega
theorem mod_low (z : Nat) : ((z : Int) % 4294967296).toNat = z % 4294967296 := by omega
theorem rotate_eq {w : Int} (hw : Wd w) (n : Nat) (hn : n ≤ 32) : impl_rotate.f w (n : Int) = some (rot w n) := by
 obtain ⟨h0, h1⟩ := hw
 obtain ⟨a, rfl⟩ := Int.eq_ofNat_of_zero_le h0
 have two : ((2 : Nat) : Int) = 2 := rfl
 have ew : wrap64 (32 - (n : Int)) = ((32 - n : Nat) : Int) := by rw [w64 (by omega) (by omega)]; omega
 have es : shr .i64 (a : Int) (n : Int) = ((a / 2 ^ n : Nat) : Int) := by
  unfold shr
  rw [Int.toNat_natCast, Nat.min_eq_left (show n ≤ IntKind.i64.bits by show n ≤ 64; omega), Int.natCast_ediv, Int.natCast_pow, two]
 have el : shl .i64 (a : Int) ((32 - n : Nat) : Int) % 4294967296 = ((a * 2 ^ (32 - n) % 4294967296 : Nat) : Int) := by
  unfold shl
  have h5 : (a : Int) * 2 ^ (32 - n) = ((a * 2 ^ (32 - n) : Nat) : Int) := by rw [Int.natCast_mul, Int.natCast_pow, two]
  rw [Int.toNat_natCast, Nat.min_eq_left (show 32 - n ≤ IntKind.i64.bits by show 32 - n ≤ 64; omega), IntKind.wrap_i64, h5]
  exact wrap_low _
 have h := rot_or (a := a) (n := n) (by omega) hn
 have t1 : (((a / 2 ^ n : Nat) : Int) % 4294967296).toNat = (a / 2 ^ n) % 4294967296 := mod_low _
 unfold impl_rotate.f
 rw [if_pos (show 0 ≤ (n : Int) by omega), ew, if_pos (show 0 ≤ ((32 - n : Nat) : Int) by omega), band_mask, bor_mask, es, el, t1, Int.toNat_natCast, h]
 unfold rot
 rw [Int.toNat_natCast]
theorem l1At_eq {l : List Int} (hb : Bytes l) (hl : l.length ≤ 4611686018427387904) {i : Int} (h0 : 0 ≤ i) (h1 : i + 4 ≤ (l.length : Int)) : spec_l1At.f l i = some (at4 l i) := by
 unfold spec_l1At.f
 rw [w64 (x := i + 1) (by omega) (by omega), w64 (x := i + 2) (by omega) (by omega), w64 (x := i + 3) (by omega) (by omega)]
 rw [if_pos (by omega), if_pos (by omega), if_pos (by omega), if_pos (by omega), if_pos (by omega), if_pos (by omega), if_pos (by omega), if_pos (by omega)]
 have b0 := hb.rd i
 have b1 := hb.rd (i + 1)
 have b2 := hb.rd (i + 2)
 have b3 := hb.rd (i + 3)
 rw [w64 (x := rd l i) (by omega) (by omega), w64 (x := rd l (i + 1)) (by omega) (by omega), w64 (x := rd l (i + 2)) (by omega) (by omega), w64 (x := rd l (i + 3)) (by omega) (by omega)]
 rw [w64 (x := rd l i * 16777216) (by omega) (by omega), w64 (x := rd l (i + 1) * 65536) (by omega) (by omega), w64 (x := rd l (i + 2) * 256) (by omega) (by omega)]
 rw [w64 (x := rd l i * 16777216 + rd l (i + 1) * 65536) (by omega) (by omega), w64 (x := rd l i * 16777216 + rd l (i + 1) * 65536 + rd l (i + 2) * 256) (by omega) (by omega), w64 (by omega) (by omega)]
 rfl
theorem wordAt_eq {l : List Int} (hb : Bytes l) (hl : l.length ≤ 4611686018427387904) {i : Int} (h0 : 0 ≤ i) (h1 : i + 4 ≤ (l.length : Int)) : impl_wordAt.f l i = some (at4 l i) := by
 unfold impl_wordAt.f
 rw [w64 (x := i + 1) (by omega) (by omega), w64 (x := i + 2) (by omega) (by omega), w64 (x := i + 3) (by omega) (by omega)]
 rw [if_pos (by omega), if_pos (by omega), if_pos (by omega), if_pos (by omega), if_pos (by omega), if_pos (by omega), if_pos (by omega), if_pos (by omega)]
 have b0 := hb.rd i
 have b1 := hb.rd (i + 1)
 have b2 := hb.rd (i + 2)
 have b3 := hb.rd (i + 3)
 rw [w64 (x := rd l i) (by omega) (by omega), w64 (x := rd l (i + 1)) (by omega) (by omega), w64 (x := rd l (i + 2)) (by omega) (by omega), w64 (x := rd l (i + 3)) (by omega) (by omega)]
 rw [w64 (x := rd l i * 16777216) (by omega) (by omega), w64 (x := rd l (i + 1) * 65536) (by omega) (by omega), w64 (x := rd l (i + 2) * 256) (by omega) (by omega)]
 rw [bor_add (x := rd l i * 16777216) (y := rd l (i + 1) * 65536) 24 (by omega) (by omega) (by omega) (by omega) (by omega) (by omega), bor_add (x := rd l i * 16777216 + rd l (i + 1) * 65536) (y := rd l (i + 2) * 256) 16 (by omega) (by omega) (by omega) (by omega) (by omega) (by omega), bor_add (x := rd l i * 16777216 + rd l (i + 1) * 65536 + rd l (i + 2) * 256) 8 (by omega) (by omega) (by omega) (by omega) (by omega) (by omega)]
 rfl
theorem l1Pack_eq {w : Int} (hw : Wd w) : spec_l1Pack.f w = some (pack4 w) := by
 obtain ⟨_, _⟩ := hw
 unfold spec_l1Pack.f pack4
 rw [Int.tdiv_eq_ediv_of_nonneg (by omega), Int.tdiv_eq_ediv_of_nonneg (by omega), Int.tdiv_eq_ediv_of_nonneg (by omega), w64 (x := w / 16777216) (by omega) (by omega), w64 (x := w / 65536) (by omega) (by omega), w64 (x := w / 256) (by omega) (by omega), Int.tmod_eq_emod_of_nonneg (by omega), Int.tmod_eq_emod_of_nonneg (by omega), Int.tmod_eq_emod_of_nonneg (by omega)]
 simp only [Int.emod_emod]
theorem four_eq (w : Int) : impl_four.f w = some (pack4 w) := rfl
theorem lwBig_eq (l : List Int) : laws_lwBig.f l = some (decide ((l.length : Int) > 1048576)) := rfl
theorem l1Next_ok {c : List Int} (hb : Bytes c) (hl : c.length ≤ 1048576) {s : Int} (h0 : 0 ≤ s) (h1 : s ≤ 1073741824) {n : Int} (hn : 1 ≤ n) : ∃ v, spec_l1Next.f c s n = some (v, s + 1) ∧ 0 ≤ v ∧ v < n := by
 unfold spec_l1Next.f
 have e1 : wrap64 (s + 1) = s + 1 := w64 (by omega) (by omega)
 have e2 : wrap64 (s + 1 - 1) = s := by rw [w64 (by omega) (by omega)]; omega
 have e3 : wrap64 (s + 2) = s + 2 := w64 (by omega) (by omega)
 simp only [e1, e2, e3]
 rw [if_neg (show ¬ n < 1 by omega)]
 have fin : ∀ X : Int, 0 ≤ X → ∃ v, (if n = 0 then none else some (Int.tmod X n, s + 1)) = some (v, s + 1) ∧ 0 ≤ v ∧ v < n := fun X hX => ⟨Int.tmod X n, by rw [if_neg (by omega)], Int.tmod_nonneg _ hX, Int.tmod_lt_of_pos _ (by omega)⟩
 by_cases hz : (c.length : Int) = 0
 ·
  rw [if_pos hz]
  exact fin _ (by rw [w64 (by omega) (by omega)]; omega)
 ·
  rw [if_neg hz]
  have ix : ∀ t : Int, 0 ≤ t → 0 ≤ Int.tmod t (c.length : Int) ∧ Int.tmod t (c.length : Int) < (c.length : Int) := fun t ht => ⟨Int.tmod_nonneg _ ht, Int.tmod_lt_of_pos _ (by omega)⟩
  rw [if_pos (ix s h0).1, if_pos (ix s h0).2, if_pos (ix (s + 1) (by omega)).1, if_pos (ix (s + 1) (by omega)).2, if_pos (ix (s + 2) (by omega)).1, if_pos (ix (s + 2) (by omega)).2]
  have q0 : 0 ≤ Int.tdiv s (c.length : Int) := Int.tdiv_nonneg h0 (by omega)
  have q1 : Int.tdiv s (c.length : Int) ≤ s := by
   rw [Int.tdiv_eq_ediv_of_nonneg h0]; exact Int.ediv_le_self _ h0
  have b0 := hb.rd (Int.tmod s (c.length : Int))
  have b1 := hb.rd (Int.tmod (s + 1) (c.length : Int))
  have b2 := hb.rd (Int.tmod (s + 2) (c.length : Int))
  generalize rd c (Int.tmod s (c.length : Int)) = x0 at *
  generalize rd c (Int.tmod (s + 1) (c.length : Int)) = x1 at *
  generalize rd c (Int.tmod (s + 2) (c.length : Int)) = x2 at *
  generalize Int.tdiv s (c.length : Int) = q at *
  have v0 : wrap64 (wrap64 x0 + wrap64 (wrap64 q * 37)) = x0 + q * 37 := by
   rw [w64 (x := x0) (by omega) (by omega), w64 (x := q) (by omega) (by omega), w64 (x := q * 37) (by omega) (by omega), w64 (by omega) (by omega)]
  have v1 : wrap64 (wrap64 (wrap64 ((x0 + q * 37) * 251) + wrap64 (wrap64 x1 * 13)) + s) = (x0 + q * 37) * 251 + x1 * 13 + s := by
   rw [w64 (x := x1) (by omega) (by omega), w64 (x := x1 * 13) (by omega) (by omega), w64 (x := (x0 + q * 37) * 251) (by omega) (by omega), w64 (x := (x0 + q * 37) * 251 + x1 * 13) (by omega) (by omega), w64 (by omega) (by omega)]
  have v2 : ∀ y : Int, 0 ≤ y → y ≤ 1152921504606846 → 0 ≤ wrap64 (wrap64 (y * 257) + wrap64 x2) := by
   intro y hy hy1
   rw [w64 (x := x2) (by omega) (by omega), w64 (x := y * 257) (by omega) (by omega), w64 (by omega) (by omega)]; omega
  simp only [v0, v1]
  by_cases ha : n > 200
  ·
   rw [if_pos ha]
   by_cases hc : n > 60000
   · rw [if_pos hc]; exact fin _ (v2 _ (by omega) (by omega))
   · rw [if_neg hc]; exact fin _ (by omega)
  · rw [if_neg ha, if_neg (show ¬ n > 60000 by omega)]; exact fin _ (by omega)
theorem l1Pick_ok {c : List Int} (hb : Bytes c) (hl : c.length ≤ 1048576) {s : Int} (h0 : 0 ≤ s) (h1 : s ≤ 1073741824) (l : List Int) (hn : 1 ≤ l.length) : ∃ v, spec_l1Pick.f c s l = some (v, s + 1) ∧ v ∈ l := by
 obtain ⟨v, hv, v0, v1⟩ := l1Next_ok hb hl h0 h1 (n := (l.length : Int)) (by omega)
 refine ⟨rd l v, ?_, rd_mem l v v0 v1⟩
 unfold spec_l1Pick.f
 rw [hv]; simp only [Option.bind_some]
 rw [if_pos v0, if_pos v1]
theorem l1Chance_ok {c : List Int} (hb : Bytes c) (hl : c.length ≤ 1048576) {s : Int} (h0 : 0 ≤ s) (h1 : s ≤ 1073741824) {n : Int} (hn : 1 ≤ n) : ∃ b, spec_l1Chance.f c s n = some (b, s + 1) := by
 obtain ⟨v, hv, v0, v1⟩ := l1Next_ok hb hl h0 h1 hn
 exact ⟨_, by unfold spec_l1Chance.f; rw [hv]; rfl⟩
theorem l1Source_eq (c : List Int) : spec_l1Source.f c = some (c, 0) := rfl
theorem l1Some_l0 {c : List Int} (hb : Bytes c) (hl : c.length ≤ 1048576) (n : Nat) : ∀ (s : Int) (x : List Int), 0 ≤ s → s + n ≤ 1073741824 → Bytes x → x.length + n ≤ 1000000 → ∃ l, Ev (fun k => spec_l1Some.l0 k (n : Int) x c s) (l, s + n) ∧ Bytes l ∧ l.length = x.length + n := by
 induction n with
 | zero =>
  intro s x h0 h1 hx hn
  refine ⟨x, Ev.ret fun k => ?_, hx, rfl⟩
  simp only [spec_l1Some.l0]; rw [if_neg (by omega)]; simp
 | succ n ih =>
  intro s x h0 h1 hx hn
  obtain ⟨v, hv, v0, v1⟩ := l1Next_ok hb hl h0 (by omega) (n := 256) (by omega)
  have hx2 : Bytes (x ++ [v % 256]) := hx.append (fun y hy => by rw [List.mem_singleton.1 hy]; omega)
  obtain ⟨l, hl1, hl2, hl3⟩ := ih (s + 1) (x ++ [v % 256]) (by omega) (by omega) hx2 (by rw [List.length_append, List.length_singleton]; omega)
  refine ⟨l, ?_, hl2, by rw [hl3, List.length_append, List.length_singleton]; omega⟩
  have e : s + ((n + 1 : Nat) : Int) = s + 1 + (n : Int) := by omega
  rw [e]
  refine Ev.step (fun k => ?_) hl1
  simp only [spec_l1Some.l0]
  rw [if_pos (by omega), hv]; simp only [Option.bind_some]
  rw [if_pos (by omega), w64 (by omega) (by omega)]
  have e2 : ((n + 1 : Nat) : Int) - 1 = (n : Int) := by omega
  rw [e2]
theorem l1Some_ok {c : List Int} (hb : Bytes c) (hl : c.length ≤ 1048576) {s n : Int} (h0 : 0 ≤ s) (h1 : s ≤ 1000000000) (hn0 : 0 ≤ n) (hn : n ≤ 1000000) : ∃ l, Ev (fun k => spec_l1Some.f k c s n) (l, s + n) ∧ Bytes l ∧ (l.length : Int) = n := by
 obtain ⟨m, rfl⟩ := Int.eq_ofNat_of_zero_le hn0
 obtain ⟨l, h2, h3, h4⟩ := l1Some_l0 hb hl m s [] h0 (by omega) Bytes.nil (by simp; omega)
 refine ⟨l, ?_, h3, by simp at h4; omega⟩
 unfold spec_l1Some.f
 exact h2
theorem lwAt_ok {c : List Int} (hb : Bytes c) (hl : c.length ≤ 1048576) {s : Int} (h0 : 0 ≤ s) (h1 : s ≤ 1000) {n : Int} (hn : 1 ≤ n) : ∃ v, laws_lwAt.f c s n = some v ∧ 0 ≤ v ∧ v < n := by
 unfold laws_lwAt.f
 by_cases h : n ≤ 1
 · rw [if_pos h]; exact ⟨0, rfl, by omega, by omega⟩
 rw [if_neg h]
 have e1 : wrap64 (s + 1) = s + 1 := w64 (by omega) (by omega)
 simp only [e1]
 have fin : ∀ X : Int, 0 ≤ X → ∃ v, (if n = 0 then none else some (Int.tmod X n)) = some v ∧ 0 ≤ v ∧ v < n := fun X hX => ⟨Int.tmod X n, by rw [if_neg (by omega)], Int.tmod_nonneg _ hX, Int.tmod_lt_of_pos _ (by omega)⟩
 by_cases hz : (c.length : Int) = 0
 ·
  rw [if_pos hz]
  exact fin _ (by rw [w64 (by omega) (by omega)]; omega)
 ·
  rw [if_neg hz]
  have ix : ∀ t : Int, 0 ≤ t → 0 ≤ Int.tmod t (c.length : Int) ∧ Int.tmod t (c.length : Int) < (c.length : Int) := fun t ht => ⟨Int.tmod_nonneg _ ht, Int.tmod_lt_of_pos _ (by omega)⟩
  rw [if_pos (ix s h0).1, if_pos (ix s h0).2, if_pos (ix (s + 1) (by omega)).1, if_pos (ix (s + 1) (by omega)).2]
  have q0 : 0 ≤ Int.tdiv s (c.length : Int) := Int.tdiv_nonneg h0 (by omega)
  have q1 : Int.tdiv s (c.length : Int) ≤ s := by
   rw [Int.tdiv_eq_ediv_of_nonneg h0]; exact Int.ediv_le_self _ h0
  have b0 := hb.rd (Int.tmod s (c.length : Int))
  have b1 := hb.rd (Int.tmod (s + 1) (c.length : Int))
  generalize rd c (Int.tmod s (c.length : Int)) = x0 at *
  generalize rd c (Int.tmod (s + 1) (c.length : Int)) = x1 at *
  generalize Int.tdiv s (c.length : Int) = q at *
  have v0 : wrap64 (wrap64 x0 + wrap64 (wrap64 q * 3)) = x0 + q * 3 := by
   rw [w64 (x := x0) (by omega) (by omega), w64 (x := q) (by omega) (by omega), w64 (x := q * 3) (by omega) (by omega), w64 (by omega) (by omega)]
  have v1 : wrap64 (wrap64 ((x0 + q * 3) * 251) + wrap64 x1) = (x0 + q * 3) * 251 + x1 := by
   rw [w64 (x := x1) (by omega) (by omega), w64 (x := (x0 + q * 3) * 251) (by omega) (by omega), w64 (by omega) (by omega)]
  simp only [v0, v1]
  by_cases ha : n > 200
  · rw [if_pos ha]; exact fin _ (by omega)
  · rw [if_neg ha]; exact fin _ (by omega)
theorem lwTurned_eq {l : List Int} (hb : Bytes l) (hl : l.length ≤ 4000000000) {i m : Int} (h0 : 0 ≤ i) (h1 : i < (l.length : Int)) (m0 : 1 ≤ m) (m1 : m ≤ 255) : laws_lwTurned.f l i m = some (l.set i.toNat (xr (rd l i) m)) := by
 unfold laws_lwTurned.f
 simp only [Option.bind_some, List.nil_append, List.length_nil]
 rw [if_pos (show 0 + l.length < 140737488355328 by omega), if_pos h0, if_pos h1, if_pos h0, show m % 256 = m by omega, bxor8_eq (hb.rd i) (by omega)]
--@block turned
theorem turned_get {l : List Int} {i m : Int} (h0 : 0 ≤ i) (h1 : i < (l.length : Int)) : ∃ j : Nat, ∃ h : j < l.length, i.toNat = j ∧ rd l i = l[j] := by
 obtain ⟨j, rfl⟩ := Int.eq_ofNat_of_zero_le h0
 exact ⟨j, by omega, by omega, rd_nat l j (by omega)⟩
theorem lwBytes_eq {a b : List Int} (ha : Bytes a) (hb : Bytes b) : laws_lwBytes.f a b = some (a == b) := by
 unfold laws_lwBytes.f; rw [strOf_beq ha hb]
theorem l2Xor_l0 {a b : Nat} (ha : a < 4294967296) (hb : b < 4294967296) (d : Nat) : ∀ j : Nat, j + d = 32 → Ev (fun k => spec_l2Xor.l0 k (a : Int) (b : Int) (((a ^^^ b) % 2 ^ j : Nat) : Int) ((2 ^ j : Nat) : Int)) ((a ^^^ b : Nat) : Int) := by
 have hx : a ^^^ b < 4294967296 := Nat.xor_lt_two_pow (n := 32) ha hb
 induction d with
 | zero =>
  intro j h
  obtain rfl : j = 32 := by omega
  rw [Nat.mod_eq_of_lt (show a ^^^ b < 2 ^ 32 from hx)]
  exact Ev.ret fun k => by simp only [spec_l2Xor.l0]; rw [if_neg (by decide)]
 | succ d ih =>
  intro j h
  obtain ⟨p0, p1⟩ := two_pow_lt (show j < 32 by omega)
  have hs := xor_step a b j
  have hl := low_lt (a ^^^ b) j hx
  have e2 : wrap64 (((2 ^ j : Nat) : Int) * 2) = ((2 ^ (j + 1) : Nat) : Int) := by
   rw [Nat.pow_succ]; exact wrap_dbl p1
  have e3 : wrap64 ((((a ^^^ b) % 2 ^ j : Nat) : Int) + ((2 ^ j : Nat) : Int)) = (((a ^^^ b) % 2 ^ j + 2 ^ j : Nat) : Int) := by
   exact wrap_sum hl p1
  refine Ev.step (f := fun k => spec_l2Xor.l0 k (a : Int) (b : Int) (((a ^^^ b) % 2 ^ (j + 1) : Nat) : Int) ((2 ^ (j + 1) : Nat) : Int)) (fun k => ?_) (ih (j + 1) (by omega))
  simp only [spec_l2Xor.l0]
  rw [bit_of a j ha, bit_of b j hb, e2, e3, hs]
  rw [if_pos (cast_lt p1), if_neg (cast_ne p0)]
  by_cases c : a / 2 ^ j % 2 = b / 2 ^ j % 2
  · rw [if_pos (Int.ofNat_inj.2 c), if_pos c]; rfl
  · rw [if_neg (fun h => c (Int.ofNat_inj.1 h)), if_neg c]
theorem l2Xor_ev {a b : Int} (ha : Wd a) (hb : Wd b) : Ev (fun k => spec_l2Xor.f k a b) (xr a b) := by
 obtain ⟨a0, a1⟩ := ha
 obtain ⟨b0, b1⟩ := hb
 obtain ⟨x, rfl⟩ := Int.eq_ofNat_of_zero_le a0
 obtain ⟨y, rfl⟩ := Int.eq_ofNat_of_zero_le b0
 have h := l2Xor_l0 (a := x) (b := y) (by omega) (by omega) 32 0 rfl
 rw [Nat.pow_zero, Nat.mod_one] at h
 exact h
theorem l2And_l0 {a b : Nat} (ha : a < 4294967296) (hb : b < 4294967296) (d : Nat) : ∀ j : Nat, j + d = 32 → Ev (fun k => spec_l2And.l0 k (a : Int) (b : Int) (((a &&& b) % 2 ^ j : Nat) : Int) ((2 ^ j : Nat) : Int)) ((a &&& b : Nat) : Int) := by
 have hx : a &&& b < 4294967296 := Nat.and_lt_two_pow (n := 32) a hb
 induction d with
 | zero =>
  intro j h
  obtain rfl : j = 32 := by omega
  rw [Nat.mod_eq_of_lt (show a &&& b < 2 ^ 32 from hx)]
  exact Ev.ret fun k => by simp only [spec_l2And.l0]; rw [if_neg (by decide)]
 | succ d ih =>
  intro j h
  obtain ⟨p0, p1⟩ := two_pow_lt (show j < 32 by omega)
  have hs := and_step a b j
  have hl := low_lt (a &&& b) j hx
  have e2 : wrap64 (((2 ^ j : Nat) : Int) * 2) = ((2 ^ (j + 1) : Nat) : Int) := by
   rw [Nat.pow_succ]; exact wrap_dbl p1
  have e3 : wrap64 ((((a &&& b) % 2 ^ j : Nat) : Int) + ((2 ^ j : Nat) : Int)) = (((a &&& b) % 2 ^ j + 2 ^ j : Nat) : Int) := by
   exact wrap_sum hl p1
  refine Ev.step (f := fun k => spec_l2And.l0 k (a : Int) (b : Int) (((a &&& b) % 2 ^ (j + 1) : Nat) : Int) ((2 ^ (j + 1) : Nat) : Int)) (fun k => ?_) (ih (j + 1) (by omega))
  simp only [spec_l2And.l0]
  rw [bit_of a j ha, bit_of b j hb, e2, e3, hs]
  rw [if_pos (cast_lt p1), if_neg (cast_ne p0)]
  by_cases c : a / 2 ^ j % 2 = 1
  ·
   rw [if_pos (show ((a / 2 ^ j % 2 : Nat) : Int) = 1 by rw [c]; rfl)]
   by_cases c2 : b / 2 ^ j % 2 = 1
   · rw [if_pos (show ((b / 2 ^ j % 2 : Nat) : Int) = 1 by rw [c2]; rfl), if_pos ⟨c, c2⟩]
   · rw [if_neg (show ¬ ((b / 2 ^ j % 2 : Nat) : Int) = 1 from fun h => c2 ((Int.ofNat_inj (m := b / 2 ^ j % 2) (n := 1)).1 h)), if_neg (fun h => c2 h.2)]; rfl
  · rw [if_neg (show ¬ ((a / 2 ^ j % 2 : Nat) : Int) = 1 from fun h => c ((Int.ofNat_inj (m := a / 2 ^ j % 2) (n := 1)).1 h)), if_neg (fun h => c h.1)]; rfl
theorem l2And_ev {a b : Int} (ha : Wd a) (hb : Wd b) : Ev (fun k => spec_l2And.f k a b) (an a b) := by
 obtain ⟨a0, a1⟩ := ha
 obtain ⟨b0, b1⟩ := hb
 obtain ⟨x, rfl⟩ := Int.eq_ofNat_of_zero_le a0
 obtain ⟨y, rfl⟩ := Int.eq_ofNat_of_zero_le b0
 have h := l2And_l0 (a := x) (b := y) (by omega) (by omega) 32 0 rfl
 rw [Nat.pow_zero, Nat.mod_one] at h
 exact h
theorem l2Small_ev {x : Int} (hx : Wd x) (a b c : Nat) (ha : a ≤ 32) (hb : b ≤ 32) (hc : c ≤ 32) : Ev (fun k => spec_l2Small.f k x (a : Int) (b : Int) (c : Int)) (xr (xr (rot x a) (rot x b)) (x / ((2 ^ c : Nat) : Int))) := by
 have hp : 0 < 2 ^ c := Nat.two_pow_pos c
 obtain ⟨e1, hd⟩ := wrap_tdiv hx hp
 unfold spec_l2Small.f
 refine Ev.bind (l1Rotate_ev hx a ha) (Ev.bind (l1Rotate_ev hx b hb) (Ev.bind (l2Xor_ev (hx.rot ha) (hx.rot hb)) (Ev.bind (l1Pow_ev c (by omega)) ?_)))
 refine Ev.neg (cast_ne hp) ?_
 rw [e1]
 exact Ev.bind (l2Xor_ev ((hx.rot ha).xr (hx.rot hb)) hd) (Ev.now _)
theorem l2Small0_ev {x : Int} (hx : Wd x) : Ev (fun k => spec_l2Small.f k x 7 18 3) (ssig0 x) := by
 have h := l2Small_ev hx 7 18 3 (by decide) (by decide) (by decide)
 have e : ((2 ^ 3 : Nat) : Int) = 8 := by decide
 rw [e] at h
 exact h
theorem l2Small1_ev {x : Int} (hx : Wd x) : Ev (fun k => spec_l2Small.f k x 17 19 10) (ssig1 x) := by
 have h := l2Small_ev hx 17 19 10 (by decide) (by decide) (by decide)
 have e : ((2 ^ 10 : Nat) : Int) = 1024 := by decide
 rw [e] at h
 exact h
theorem add4_mod (a b c d : Int) : ((a + b) % 4294967296 + (c + d) % 4294967296) % 4294967296 = (a + b + c + d) % 4294967296 := by omega
theorem l2Schedule_l1 {b : List Int} (hb : Bytes b) (d : Nat) : ∀ n : Nat, n + d = 48 → Ev (fun k => spec_l2Schedule.l1 k (schedN b n) ((n + 16 : Nat) : Int)) (sched b) := by
 induction d with
 | zero =>
  intro n h
  obtain rfl : n = 48 := by omega
  exact Ev.ret fun k => by simp only [spec_l2Schedule.l1]; rw [if_neg (by decide)]; rfl
 | succ d ih =>
  intro n h
  have hw := schedN_words hb n
  have hl := schedN_length b n
  have e15 : wrap64 (((n + 16 : Nat) : Int) - 15) = (n : Int) + 16 - 15 := by rw [w64 (by omega) (by omega)]; omega
  have e2 : wrap64 (((n + 16 : Nat) : Int) - 2) = (n : Int) + 16 - 2 := by rw [w64 (by omega) (by omega)]; omega
  have e16 : wrap64 (((n + 16 : Nat) : Int) - 16) = (n : Int) + 16 - 16 := by rw [w64 (by omega) (by omega)]; omega
  have e7 : wrap64 (((n + 16 : Nat) : Int) - 7) = (n : Int) + 16 - 7 := by rw [w64 (by omega) (by omega)]; omega
  have e1 : wrap64 (((n + 16 : Nat) : Int) + 1) = ((n + 1 + 16 : Nat) : Int) := by rw [w64 (by omega) (by omega)]; omega
  refine Ev.step (fun k => by simp only [spec_l2Schedule.l1, e15, e2, e16, e7, e1]; rfl) ?_
  refine Ev.pos (by omega) (Ev.pos (by omega) (Ev.pos (by omega) (Ev.bind (l2Small0_ev (hw.rd _)) (Ev.pos (by omega) (Ev.pos (by omega) (Ev.bind (l2Small1_ev (hw.rd _)) (Ev.pos (by omega) (Ev.pos (by omega) (Ev.pos (by omega) (Ev.pos (by omega) ?_))))))))))
  refine Ev.bind (Ev.all fun _ => l1Add_eq (hw.rd _) (hw.rd _)) (Ev.bind (Ev.all fun _ => l1Add_eq (hw.rd _).ssig0 (hw.rd _).ssig1) (Ev.bind (Ev.all fun _ => l1Add_eq (Wd.mod _) (Wd.mod _)) ?_))
  have es : ((rd (schedN b n) ((n : Int) + 16 - 16) + rd (schedN b n) ((n : Int) + 16 - 7)) % 4294967296 + (ssig0 (rd (schedN b n) ((n : Int) + 16 - 15)) + ssig1 (rd (schedN b n) ((n : Int) + 16 - 2))) % 4294967296) % 4294967296 = schedW (schedN b n) ((n : Int) + 16) := add4_mod _ _ _ _
  rw [es]
  exact Ev.pos (by omega) (ih (n + 1) (by omega))
theorem l2Schedule_l0 {b : List Int} (hb : Bytes b) (hl : b.length = 64) (d : Nat) : ∀ n : Nat, n + d = 16 → Ev (fun k => spec_l2Schedule.l0 k b (sched0 b n) (n : Int)) (sched b) := by
 induction d with
 | zero =>
  intro n h
  obtain rfl : n = 16 := by omega
  refine Ev.step (fun k => ?_) (l2Schedule_l1 hb 48 0 rfl)
  simp only [spec_l2Schedule.l0]; rw [if_neg (by decide)]; rfl
 | succ d ih =>
  intro n h
  refine Ev.step (fun k => ?_) (ih (n + 1) (by omega))
  have e4 : wrap64 (4 * (n : Int)) = 4 * (n : Int) := w64 (by omega) (by omega)
  simp only [spec_l2Schedule.l0, e4]
  rw [if_pos (by omega), l1At_eq hb (by omega) (by omega) (by omega)]; simp only [Option.bind_some]
  rw [if_pos (by rw [sched0_length]; omega), w64 (by omega) (by omega)]; rfl
theorem l2Schedule_ev {b : List Int} (hb : Bytes b) (hl : b.length = 64) : Ev (fun k => spec_l2Schedule.f k b) (sched b) := l2Schedule_l0 hb hl 16 0 rfl
theorem addWords_four {a b c d : Int} (ha : Wd a) (hb : Wd b) (hc : Wd c) (hd : Wd d) : Ev (fun k => impl_addWords.f k ([a, b, c, d] : List Int)) ((a + b + c + d) % 4294967296) := by
 have h := addWords_ev [a, b, c, d] (by simp) (by intro x hx; simp at hx; rcases hx with rfl | rfl | rfl | rfl <;> assumption)
 have e : sumW 0 [a, b, c, d] = (a + b + c + d) % 4294967296 := by
  simp only [sumW, List.foldl_cons, List.foldl_nil]; omega
 rwa [e] at h
theorem scheduleOf_l1 {b : List Int} (hb : Bytes b) (d : Nat) : ∀ n : Nat, n + d = 48 → Ev (fun k => impl_scheduleOf.l1 k (schedN b n) ((n + 16 : Nat) : Int)) (sched b) := by
 induction d with
 | zero =>
  intro n h
  obtain rfl : n = 48 := by omega
  exact Ev.ret fun k => by simp only [impl_scheduleOf.l1]; rw [if_neg (by decide)]; rfl
 | succ d ih =>
  intro n h
  have hw := schedN_words hb n
  have hl := schedN_length b n
  have e15 : wrap64 (((n + 16 : Nat) : Int) - 15) = (n : Int) + 16 - 15 := by rw [w64 (by omega) (by omega)]; omega
  have e2 : wrap64 (((n + 16 : Nat) : Int) - 2) = (n : Int) + 16 - 2 := by rw [w64 (by omega) (by omega)]; omega
  have e16 : wrap64 (((n + 16 : Nat) : Int) - 16) = (n : Int) + 16 - 16 := by rw [w64 (by omega) (by omega)]; omega
  have e7 : wrap64 (((n + 16 : Nat) : Int) - 7) = (n : Int) + 16 - 7 := by rw [w64 (by omega) (by omega)]; omega
  have e1 : wrap64 (((n + 16 : Nat) : Int) + 1) = ((n + 1 + 16 : Nat) : Int) := by rw [w64 (by omega) (by omega)]; omega
  have x15 := hw.rd ((n : Int) + 16 - 15)
  have x2 := hw.rd ((n : Int) + 16 - 2)
  have r1 : impl_rotate.f (rd (schedN b n) ((n : Int) + 16 - 15)) 7 = some (rot (rd (schedN b n) ((n : Int) + 16 - 15)) 7) := rotate_eq x15 7 (by decide)
  have r2 : impl_rotate.f (rd (schedN b n) ((n : Int) + 16 - 15)) 18 = some (rot (rd (schedN b n) ((n : Int) + 16 - 15)) 18) := rotate_eq x15 18 (by decide)
  have r3 : impl_rotate.f (rd (schedN b n) ((n : Int) + 16 - 2)) 17 = some (rot (rd (schedN b n) ((n : Int) + 16 - 2)) 17) := rotate_eq x2 17 (by decide)
  have r4 : impl_rotate.f (rd (schedN b n) ((n : Int) + 16 - 2)) 19 = some (rot (rd (schedN b n) ((n : Int) + 16 - 2)) 19) := rotate_eq x2 19 (by decide)
  refine Ev.step (fun k => by simp only [impl_scheduleOf.l1, e15, e2, e16, e7, e1, r1, r2, r3, r4, Option.bind_some]; rfl) ?_
  refine Ev.pos (by omega) (Ev.pos (by omega) (Ev.pos (by omega) (Ev.pos (by omega) (Ev.pos (by omega) (Ev.pos (by omega) (Ev.pos (by omega) (Ev.pos (by omega) (Ev.pos (by omega) ?_))))))))
  rw [(x15.rot (by decide)).bxor (x15.rot (by decide)), ((x15.rot (by decide)).xr (x15.rot (by decide))).bxor (x15.div (by decide)), (x2.rot (by decide)).bxor (x2.rot (by decide)), ((x2.rot (by decide)).xr (x2.rot (by decide))).bxor (x2.div (by decide))]
  exact Ev.bind (addWords_four (hw.rd _) (hw.rd _) x15.ssig0 x2.ssig1) (Ev.pos (by omega) (ih (n + 1) (by omega)))
theorem scheduleOf_l0 {b : List Int} (hb : Bytes b) (hl : b.length = 64) (d : Nat) : ∀ n : Nat, n + d = 16 → Ev (fun k => impl_scheduleOf.l0 k b (sched0 b n) (n : Int)) (sched b) := by
 induction d with
 | zero =>
  intro n h
  obtain rfl : n = 16 := by omega
  refine Ev.step (fun k => ?_) (scheduleOf_l1 hb 48 0 rfl)
  simp only [impl_scheduleOf.l0]; rw [if_neg (by decide)]; rfl
 | succ d ih =>
  intro n h
  refine Ev.step (fun k => ?_) (ih (n + 1) (by omega))
  have e4 : wrap64 (4 * (n : Int)) = 4 * (n : Int) := w64 (by omega) (by omega)
  simp only [impl_scheduleOf.l0, e4]
  rw [if_pos (by omega), wordAt_eq hb (by omega) (by omega) (by omega)]; simp only [Option.bind_some]
  rw [if_pos (by rw [sched0_length]; omega), w64 (by omega) (by omega)]; rfl
theorem scheduleOf_ev {b : List Int} (hb : Bytes b) (hl : b.length = 64) : Ev (fun k => impl_scheduleOf.f k b) (sched b) := scheduleOf_l0 hb hl 16 0 rfl
theorem CloneB_eq (l : List Int) (h : l.length < 140737488355328) : slices_Clone_byte_byte.f l = some l := by
 unfold slices_Clone_byte_byte.f; rw [if_pos h]
theorem l1Copy_eq (l : List Int) (h : l.length < 140737488355328) : spec_l1Copy.f l = some l := by
 unfold spec_l1Copy.f
 simp only [Option.bind_some, List.nil_append, List.length_nil]
 rw [if_pos (by omega)]
theorem implPad_l0 (l : List Int) (hl : l.length ≤ 1000000) (d : Nat) : ∀ n : Nat, n + d = zerosFor l.length → Ev (fun k => impl_PadMessage.l0 k l (l ++ [128] ++ List.replicate n 0)) (0, padded l) := by
 have hz : zerosFor l.length ≤ 64 := by unfold zerosFor; omega
 have hw : wrap64 ((l.length : Int) * 8) = (l.length : Int) * 8 := w64 (by omega) (by omega)
 induction d with
 | zero =>
  intro n h
  obtain rfl : n = zerosFor l.length := by omega
  refine Ev.ret fun k => ?_
  have hlen : (l ++ [128] ++ List.replicate (zerosFor l.length) 0).length = l.length + 1 + zerosFor l.length := by simp; omega
  simp only [impl_PadMessage.l0, Option.bind_some, four_eq, hw]
  rw [if_pos (by rw [hlen]; unfold zerosFor; omega), if_pos (by rw [hlen]; simp; omega), if_pos (by simp [pack4]; omega)]
  rfl
 | succ d ih =>
  intro n h
  have hlen : (l ++ [128] ++ List.replicate n 0).length = l.length + 1 + n := by simp; omega
  refine Ev.step (fun k => ?_) (ih (n + 1) (by omega))
  simp only [impl_PadMessage.l0]
  rw [if_neg (by rw [hlen]; unfold zerosFor at h; omega), if_pos (by rw [hlen]; omega)]
  simp only [List.append_assoc, ← List.replicate_succ']
theorem implPadMessage_ev (l : List Int) : Ev (fun k => impl_PadMessage.f k l) (padR l) := by
 unfold impl_PadMessage.f padR
 by_cases h : l.length > 700
 · rw [if_pos h]; exact Ev.pos (by omega) (Ev.now _)
 ·
  rw [if_neg h]
  refine Ev.neg (by omega) ?_
  rw [CloneB_eq l (by omega)]
  simp only [Option.bind_some]
  refine Ev.pos (by omega) ?_
  have := implPad_l0 l (by omega) (zerosFor l.length) 0 (by omega)
  simpa only [List.replicate_zero, List.append_nil] using this
theorem l2Pad_l0 (l : List Int) (hl : l.length ≤ 1000000) (d : Nat) : ∀ n : Nat, n + d = zerosFor l.length → Ev (fun k => spec_l2Pad.l0 k l (l ++ [128] ++ List.replicate n 0)) (padded l) := by
 have hz : zerosFor l.length ≤ 64 := by unfold zerosFor; omega
 have hw : wrap64 ((l.length : Int) * 8) = (l.length : Int) * 8 := w64 (by omega) (by omega)
 have hd : Wd ((l.length : Int) * 8) := by unfold Wd; omega
 induction d with
 | zero =>
  intro n h
  obtain rfl : n = zerosFor l.length := by omega
  refine Ev.ret fun k => ?_
  have hlen : (l ++ [128] ++ List.replicate (zerosFor l.length) 0).length = l.length + 1 + zerosFor l.length := by simp; omega
  simp only [spec_l2Pad.l0, Option.bind_some, hw, l1Pack_eq hd]
  rw [if_pos (by rw [hlen]; unfold zerosFor; omega), if_pos (by rw [hlen]; simp; omega), if_pos (by simp [pack4]; omega)]
  rfl
 | succ d ih =>
  intro n h
  have hlen : (l ++ [128] ++ List.replicate n 0).length = l.length + 1 + n := by simp; omega
  refine Ev.step (fun k => ?_) (ih (n + 1) (by omega))
  simp only [spec_l2Pad.l0]
  rw [if_neg (by rw [hlen]; unfold zerosFor at h; omega), if_pos (by rw [hlen]; omega)]
  simp only [List.append_assoc, ← List.replicate_succ']
theorem l2Pad_ev (l : List Int) (hl : l.length ≤ 1000000) : Ev (fun k => spec_l2Pad.f k l) (padded l) := by
 unfold spec_l2Pad.f
 rw [l1Copy_eq l (by omega)]
 simp only [Option.bind_some]
 refine Ev.pos (by omega) ?_
 have := l2Pad_l0 l hl (zerosFor l.length) 0 (by omega)
 simpa only [List.replicate_zero, List.append_nil] using this
theorem CloneI_eq (l : List Int) (h : l.length < 17592186044416) : slices_Clone_int64_int64.f l = some l := by
 unfold slices_Clone_int64_int64.f; rw [if_pos h]
theorem l1Ints_eq (l : List Int) (h : l.length < 17592186044416) : spec_l1Ints.f l = some l := by
 show (if ([] : List Int).length + l.length < 17592186044416 then some (([] : List Int) ++ l) else none) = some l
 rw [if_pos (by simpa using h)]; rfl
theorem l2Big_ev {x : Int} (hx : Wd x) (a b c : Nat) (ha : a ≤ 32) (hb : b ≤ 32) (hc : c ≤ 32) : Ev (fun k => spec_l2Big.f k x (a : Int) (b : Int) (c : Int)) (xr (xr (rot x a) (rot x b)) (rot x c)) := by
 unfold spec_l2Big.f
 exact Ev.bind (l1Rotate_ev hx a ha) (Ev.bind (l1Rotate_ev hx b hb) (Ev.bind (l2Xor_ev (hx.rot ha) (hx.rot hb)) (Ev.bind (l1Rotate_ev hx c hc) (Ev.bind (l2Xor_ev ((hx.rot ha).xr (hx.rot hb)) (hx.rot hc)) (Ev.now _)))))
theorem l2Big0_ev {x : Int} (hx : Wd x) : Ev (fun k => spec_l2Big.f k x 2 13 22) (bsig0 x) := l2Big_ev hx 2 13 22 (by decide) (by decide) (by decide)
theorem l2Big1_ev {x : Int} (hx : Wd x) : Ev (fun k => spec_l2Big.f k x 6 11 25) (bsig1 x) := l2Big_ev hx 6 11 25 (by decide) (by decide) (by decide)
theorem l2Keys_eq : spec_l2Keys.f = some keys64 := rfl
theorem rnd1_spec (v : List Int) (k w : Int) : ((rd v 7 + bsig1 (rd v 4)) % 4294967296 + xr (an (rd v 4) (rd v 5)) (an (4294967295 - rd v 4) (rd v 6))) % 4294967296 = (rd v 7 + bsig1 (rd v 4) + xr (an (rd v 4) (rd v 5)) (an (4294967295 - rd v 4) (rd v 6))) % 4294967296 := by omega
theorem sum_kw (a k w : Int) : (a % 4294967296 + (k + w) % 4294967296) % 4294967296 = (a + k + w) % 4294967296 := by omega
theorem Wd.not {x : Int} (h : Wd x) : Wd (4294967295 - x) := by obtain ⟨_, _⟩ := h; unfold Wd; omega
theorem Wd.w64_not {x : Int} (h : Wd x) : wrap64 (4294967295 - x) = 4294967295 - x := by obtain ⟨_, _⟩ := h; exact w64 (by omega) (by omega)
theorem l8 {v : List Int} (h : v.length = 8) : (0 < (v.length : Int) ∧ 1 < (v.length : Int) ∧ 2 < (v.length : Int) ∧ 3 < (v.length : Int)) ∧ 4 < (v.length : Int) ∧ 5 < (v.length : Int) ∧ 6 < (v.length : Int) ∧ 7 < (v.length : Int) := by omega
theorem l64 {v : List Int} {n : Nat} (h : v.length = 64) (hn : n < 64) : (n : Int) < (v.length : Int) := by omega
theorem l2Compress_round {s ks ws v : List Int} {n : Nat} (hks : Words ks) (hws : Words ws) (hv : Words v) (hk : ks.length = 64) (hw : ws.length = 64) (h8 : v.length = 8) (hn : n < 64) {r : List Int}
  (h : Ev (fun k => spec_l2Compress.l0 k s ks ws (rnd v (rd ks (n : Int)) (rd ws (n : Int))) ((n + 1 : Nat) : Int)) r) : Ev (fun k => spec_l2Compress.l0 k s ks ws v (n : Int)) r := by
 obtain ⟨⟨c0, c1, c2, c3⟩, c4, c5, c6, c7⟩ := l8 h8
 have d0 : (n : Int) < 64 := by omega
 have d1 : 0 ≤ (n : Int) := by omega
 have w1 : wrap64 ((n : Int) + 1) = ((n + 1 : Nat) : Int) := by rw [w64 (by omega) (by omega)]; rfl
 refine Ev.step (fun k => by simp only [spec_l2Compress.l0, Wd.w64_not (hv.rd 4), w1]; rfl) ?_
 have t1w : Wd ((rd v 7 + bsig1 (rd v 4)) % 4294967296) := Wd.mod _
 have chw : Wd (xr (an (rd v 4) (rd v 5)) (an (4294967295 - rd v 4) (rd v 6))) := ((hv.rd 4).an (hv.rd 5)).xr ((Wd.not (hv.rd 4)).an (hv.rd 6))
 have mjw : Wd (xr (xr (an (rd v 0) (rd v 1)) (an (rd v 0) (rd v 2))) (an (rd v 1) (rd v 2))) := (((hv.rd 0).an (hv.rd 1)).xr ((hv.rd 0).an (hv.rd 2))).xr ((hv.rd 1).an (hv.rd 2))
 refine Ev.pos d0 (Ev.pos c4 (Ev.pos c5 (Ev.bind (l2And_ev (hv.rd 4) (hv.rd 5)) (Ev.pos c6 (Ev.bind (l2And_ev (Wd.not (hv.rd 4)) (hv.rd 6)) (Ev.bind (l2Xor_ev ((hv.rd 4).an (hv.rd 5)) ((Wd.not (hv.rd 4)).an (hv.rd 6))) ?_))))))
 refine Ev.pos c0 (Ev.pos c1 (Ev.bind (l2And_ev (hv.rd 0) (hv.rd 1)) (Ev.pos c2 (Ev.bind (l2And_ev (hv.rd 0) (hv.rd 2)) (Ev.bind (l2Xor_ev ((hv.rd 0).an (hv.rd 1)) ((hv.rd 0).an (hv.rd 2))) (Ev.bind (l2And_ev (hv.rd 1) (hv.rd 2)) (Ev.bind (l2Xor_ev (((hv.rd 0).an (hv.rd 1)).xr ((hv.rd 0).an (hv.rd 2))) ((hv.rd 1).an (hv.rd 2))) ?_)))))))
 refine Ev.pos c7 (Ev.bind (l2Big1_ev (hv.rd 4)) (Ev.bind (Ev.all fun _ => l1Add_eq (hv.rd 7) (hv.rd 4).bsig1) (Ev.bind (Ev.all fun _ => l1Add_eq t1w chw) ?_)))
 refine Ev.pos d1 (Ev.pos (l64 hk hn) (Ev.pos (l64 hw hn) (Ev.bind (Ev.all fun _ => l1Add_eq (hks.rd _) (hws.rd _)) (Ev.bind (Ev.all fun _ => l1Add_eq (Wd.mod _) (Wd.mod _)) ?_))))
 refine Ev.bind (l2Big0_ev (hv.rd 0)) (Ev.bind (Ev.all fun _ => l1Add_eq (hv.rd 0).bsig0 mjw) (Ev.bind (Ev.all fun _ => l1Add_eq (Wd.mod _) (Wd.mod _)) (Ev.pos c3 (Ev.bind (Ev.all fun _ => l1Add_eq (hv.rd 3) (Wd.mod _)) ?_))))
 rw [rnd1_spec v 0 0, sum_kw (rd v 7 + bsig1 (rd v 4) + xr (an (rd v 4) (rd v 5)) (an (4294967295 - rd v 4) (rd v 6))) (rd ks (n : Int)) (rd ws (n : Int))]
 exact h
theorem l2Compress_l1 {s v : List Int} (hs : Words s) (hv : Words v) (h8 : s.length = 8) (g8 : v.length = 8) (d : Nat) : ∀ n : Nat, n + d = 8 → Ev (fun k => spec_l2Compress.l1 k s v (addL s v n) (n : Int)) (addL s v 8) := by
 induction d with
 | zero =>
  intro n h
  obtain rfl : n = 8 := by omega
  exact Ev.ret fun k => by simp only [spec_l2Compress.l1]; rw [if_neg (by decide)]
 | succ d ih =>
  intro n h
  refine Ev.step (fun k => ?_) (ih (n + 1) (by omega))
  simp only [spec_l2Compress.l1]
  rw [if_pos (by omega), if_pos (by omega), if_pos (by omega), if_pos (by omega), l1Add_eq (hs.rd _) (hv.rd _)]
  simp only [Option.bind_some]
  rw [if_pos (by rw [addL_length]; omega), w64 (by omega) (by omega)]; rfl
theorem l2Compress_l0 {s ws : List Int} (hs : Words s) (hws : Words ws) (h8 : s.length = 8) (hw : ws.length = 64) (d : Nat) : ∀ n : Nat, n + d = 64 → Ev (fun k => spec_l2Compress.l0 k s keys64 ws (rounds keys64 ws s n) (n : Int)) (addL s (rounds keys64 ws s 64) 8) := by
 induction d with
 | zero =>
  intro n h
  obtain rfl : n = 64 := by omega
  refine Ev.step (fun k => ?_) (l2Compress_l1 hs (rounds_words keys64 ws s hs 64) h8 (rounds_length keys64 ws s h8 64) 8 0 rfl)
  simp only [spec_l2Compress.l0]; rw [if_neg (by decide)]; rfl
 | succ d ih =>
  intro n h
  exact l2Compress_round keys64_words hws (rounds_words keys64 ws s hs n) (by decide) hw (rounds_length keys64 ws s h8 n) (by omega) (ih (n + 1) (by omega))
theorem l2Compress_ev {s b : List Int} (hs : Words s) (h8 : s.length = 8) (hb : Bytes b) (hl : b.length = 64) : Ev (fun k => spec_l2Compress.f k s b) (comp s b) := by
 unfold spec_l2Compress.f
 rw [l2Keys_eq]; simp only [Option.bind_some]
 refine Ev.bind (l2Schedule_ev hb hl) ?_
 rw [l1Ints_eq s (by omega)]; simp only [Option.bind_some]
 exact l2Compress_l0 hs (sched_words hb) h8 (sched_length b) 64 0 rfl
theorem bnot_and {x : Int} (h : Wd x) : Go.bits .and .i64 (Go.bits .xor .i64 (-1) x) 4294967295 = 4294967295 - x := by
 obtain ⟨h0, h1⟩ := h
 rw [band_mask]
 have e : Go.bits .xor .i64 (-1) x = -1 - x := by
  obtain ⟨n, rfl⟩ := Int.eq_ofNat_of_zero_le h0
  exact bnot_nat n (by omega)
 rw [e]; omega
theorem addWords_five {a b c d e : Int} (ha : Wd a) (hb : Wd b) (hc : Wd c) (hd : Wd d) (he : Wd e) : Ev (fun k => impl_addWords.f k ([a, b, c, d, e] : List Int)) ((a + b + c + d + e) % 4294967296) := by
 have h := addWords_ev [a, b, c, d, e] (by simp) (by intro x hx; simp at hx; rcases hx with rfl | rfl | rfl | rfl | rfl <;> assumption)
 have e : sumW 0 [a, b, c, d, e] = (a + b + c + d + e) % 4294967296 := by
  simp only [sumW, List.foldl_cons, List.foldl_nil]; omega
 rwa [e] at h
theorem ll8 {v : List Int} (h : v.length = 8) : (0 < (v.length : Int) ∧ 1 < (v.length : Int) ∧ 2 < (v.length : Int) ∧ 3 < (v.length : Int)) ∧ 4 < (v.length : Int) ∧ 5 < (v.length : Int) ∧ 6 < (v.length : Int) ∧ 7 < (v.length : Int) := by omega
theorem ll64 {v : List Int} {n : Nat} (h : v.length = 64) (hn : n < 64) : (n : Int) < (v.length : Int) := by omega
theorem KAL_eq : KAL_ = keys64 := rfl
theorem compress_round {s ws v : List Int} {n : Nat} {z : Int} (hws : Words ws) (hv : Words v) (hw : ws.length = 64) (h8 : v.length = 8) (hn : n < 64) {r : List Int}
  (h : Ev (fun k => impl_compress.l0 k s ws (rnd v (rd keys64 (n : Int)) (rd ws (n : Int))) ((n + 1 : Nat) : Int) z) r) : Ev (fun k => impl_compress.l0 k s ws v (n : Int) z) r := by
 obtain ⟨⟨c0, c1, c2, c3⟩, c4, c5, c6, c7⟩ := ll8 h8
 have d0 : (n : Int) < 64 := by omega
 have d1 : 0 ≤ (n : Int) := by omega
 have w1 : wrap64 ((n : Int) + 1) = ((n + 1 : Nat) : Int) := by rw [w64 (by omega) (by omega)]; rfl
 have x4 := hv.rd 4
 have x0 := hv.rd 0
 have r1 : impl_rotate.f (rd v 4) 6 = some (rot (rd v 4) 6) := rotate_eq x4 6 (by decide)
 have r2 : impl_rotate.f (rd v 4) 11 = some (rot (rd v 4) 11) := rotate_eq x4 11 (by decide)
 have r3 : impl_rotate.f (rd v 4) 25 = some (rot (rd v 4) 25) := rotate_eq x4 25 (by decide)
 have r4 : impl_rotate.f (rd v 0) 2 = some (rot (rd v 0) 2) := rotate_eq x0 2 (by decide)
 have r5 : impl_rotate.f (rd v 0) 13 = some (rot (rd v 0) 13) := rotate_eq x0 13 (by decide)
 have r6 : impl_rotate.f (rd v 0) 22 = some (rot (rd v 0) 22) := rotate_eq x0 22 (by decide)
 have b1 : Go.bits .xor .i64 (Go.bits .xor .i64 (rot (rd v 4) 6) (rot (rd v 4) 11)) (rot (rd v 4) 25) = bsig1 (rd v 4) := by
  rw [(x4.rot (by decide)).bxor (x4.rot (by decide)), ((x4.rot (by decide)).xr (x4.rot (by decide))).bxor (x4.rot (by decide))]; rfl
 have b0 : Go.bits .xor .i64 (Go.bits .xor .i64 (rot (rd v 0) 2) (rot (rd v 0) 13)) (rot (rd v 0) 22) = bsig0 (rd v 0) := by
  rw [(x0.rot (by decide)).bxor (x0.rot (by decide)), ((x0.rot (by decide)).xr (x0.rot (by decide))).bxor (x0.rot (by decide))]; rfl
 have n4 : Wd (4294967295 - rd v 4) := by obtain ⟨_, _⟩ := x4; unfold Wd; omega
 have ch : Go.bits .xor .i64 (Go.bits .and .i64 (rd v 4) (rd v 5)) (Go.bits .and .i64 (Go.bits .and .i64 (Go.bits .xor .i64 (-1) (rd v 4)) 4294967295) (rd v 6)) = xr (an (rd v 4) (rd v 5)) (an (4294967295 - rd v 4) (rd v 6)) := by
  rw [bnot_and x4, x4.band (hv.rd 5), n4.band (hv.rd 6), (x4.an (hv.rd 5)).bxor (n4.an (hv.rd 6))]
 have mj : Go.bits .xor .i64 (Go.bits .xor .i64 (Go.bits .and .i64 (rd v 0) (rd v 1)) (Go.bits .and .i64 (rd v 0) (rd v 2))) (Go.bits .and .i64 (rd v 1) (rd v 2)) = xr (xr (an (rd v 0) (rd v 1)) (an (rd v 0) (rd v 2))) (an (rd v 1) (rd v 2)) := by
  rw [x0.band (hv.rd 1), x0.band (hv.rd 2), (hv.rd 1).band (hv.rd 2), (x0.an (hv.rd 1)).bxor (x0.an (hv.rd 2)), ((x0.an (hv.rd 1)).xr (x0.an (hv.rd 2))).bxor ((hv.rd 1).an (hv.rd 2))]
 have chw : Wd (xr (an (rd v 4) (rd v 5)) (an (4294967295 - rd v 4) (rd v 6))) := (x4.an (hv.rd 5)).xr (n4.an (hv.rd 6))
 have mjw : Wd (xr (xr (an (rd v 0) (rd v 1)) (an (rd v 0) (rd v 2))) (an (rd v 1) (rd v 2))) := ((x0.an (hv.rd 1)).xr (x0.an (hv.rd 2))).xr ((hv.rd 1).an (hv.rd 2))
 refine Ev.step (fun k => by simp only [impl_compress.l0, w1, KAL_eq, r1, r2, r3, r4, r5, r6, b0, b1, ch, mj, Option.bind_some]; rfl) ?_
 refine Ev.pos d0 (Ev.pos c0 (Ev.pos c1 (Ev.pos c2 (Ev.pos c4 (Ev.pos c5 (Ev.pos c6 (Ev.pos c7 (Ev.pos d1 (Ev.pos (ll64 hw hn) (Ev.bind (addWords_five (hv.rd 7) x4.bsig1 chw (keys64_words.rd _) (hws.rd _)) ?_))))))))))
 refine Ev.bind (addWords_two x0.bsig0 mjw) (Ev.bind (addWords_two (Wd.mod _) (Wd.mod _)) (Ev.pos c3 (Ev.bind (addWords_two (hv.rd 3) (Wd.mod _)) ?_)))
 exact h
theorem addL_set {a b : List Int} {n : Nat} (ha : a.length = 8) (hn : n < 8) : (addL b a n ++ a.drop n).set n ((rd a (n : Int) + rd b (n : Int)) % 4294967296) = addL b a (n + 1) ++ a.drop (n + 1) := by
 have hl := addL_length b a n
 rw [List.set_append_right n _ (by omega), hl, Nat.sub_self, List.drop_eq_getElem_cons (show n < a.length by omega), List.set_cons_zero, addL, Int.add_comm, List.append_assoc]
 rfl
theorem compress_rd {a b : List Int} {n : Nat} (ha : a.length = 8) (hn : n < 8) : rd (addL b a n ++ a.drop n) (n : Int) = rd a (n : Int) := by
 have hl := addL_length b a n
 rw [rd_nat _ n (by rw [List.length_append, List.length_drop]; omega), rd_nat a n (by omega), List.getElem_append_right (by omega), List.getElem_drop]
 congr 1; omega
theorem compress_l1 {s v : List Int} (hs : Words s) (hv : Words v) (h8 : s.length = 8) (g8 : v.length = 8) (d : Nat) : ∀ n : Nat, n + d = 8 → Ev (fun k => impl_compress.l1 k s (addL s v n ++ v.drop n) 8 (n : Int)) (addL s v 8) := by
 induction d with
 | zero =>
  intro n h
  obtain rfl : n = 8 := by omega
  exact Ev.ret fun k => by simp only [impl_compress.l1]; rw [if_neg (by decide), List.drop_of_length_le (by omega), List.append_nil]
 | succ d ih =>
  intro n h
  have hlen : (addL s v n ++ v.drop n).length = 8 := by rw [List.length_append, addL_length, List.length_drop]; omega
  have w1 : wrap64 ((n : Int) + 1) = ((n + 1 : Nat) : Int) := by rw [w64 (by omega) (by omega)]; rfl
  refine Ev.step (fun k => by simp only [impl_compress.l1, w1, compress_rd g8 (show n < 8 by omega), Int.toNat_natCast]; rfl) ?_
  refine Ev.pos (by omega) (Ev.pos (by omega) (Ev.pos (by rw [hlen]; omega) (Ev.pos (by omega) (Ev.bind (addWords_two (hv.rd _) (hs.rd _)) ?_))))
  rw [addL_set g8 (by omega)]
  exact ih (n + 1) (by omega)
theorem compress_l0 {s ws : List Int} {z : Int} (hs : Words s) (hws : Words ws) (h8 : s.length = 8) (hw : ws.length = 64) (d : Nat) : ∀ n : Nat, n + d = 64 → Ev (fun k => impl_compress.l0 k s ws (rounds keys64 ws s n) (n : Int) z) (addL s (rounds keys64 ws s 64) 8) := by
 induction d with
 | zero =>
  intro n h
  obtain rfl : n = 64 := by omega
  have g8 := rounds_length keys64 ws s h8 64
  have := compress_l1 hs (rounds_words keys64 ws s hs 64) h8 g8 8 0 rfl
  refine Ev.step (fun k => ?_) this
  simp only [impl_compress.l0, g8]; rw [if_neg (by decide)]; rfl
 | succ d ih =>
  intro n h
  exact compress_round hws (rounds_words keys64 ws s hs n) hw (rounds_length keys64 ws s h8 n) (by omega) (ih (n + 1) (by omega))
theorem compress_ev {s b : List Int} (hs : Words s) (h8 : s.length = 8) (hb : Bytes b) (hl : b.length = 64) : Ev (fun k => impl_compress.f k s b) (comp s b) := by
 unfold impl_compress.f
 refine Ev.bind (scheduleOf_ev hb hl) ?_
 rw [CloneI_eq s (by omega)]; simp only [Option.bind_some]
 exact compress_l0 hs (sched_words hb) h8 (sched_length b) 64 0 rfl
theorem blk_len {p : List Int} {m n : Nat} (hp : p.length = 64 * m) (hn : n < m) : ((p.take (64 * n + 64)).drop (64 * n)).length = 64 := by
 rw [List.length_drop, List.length_take]; omega
theorem blk_ifs {n m : Nat} (hm : m ≤ 1000) (hn : n < m) : ((64 * n : Nat) : Int) < ((64 * m : Nat) : Int) ∧ 0 ≤ ((64 * n : Nat) : Int) ∧ ((64 * n : Nat) : Int) ≤ ((64 * n + 64 : Nat) : Int) ∧ ((64 * n + 64 : Nat) : Int) ≤ ((64 * m : Nat) : Int) ∧ wrap64 (((64 * n : Nat) : Int) + 64) = ((64 * n + 64 : Nat) : Int) := by
 refine ⟨by omega, by omega, by omega, by omega, ?_⟩
 rw [w64 (by omega) (by omega)]; omega
theorem padded_64 (l : List Int) : (padded l).length = 64 * ((padded l).length / 64) := by
 rw [padded_length]; unfold zerosFor; omega
theorem padded_few {l : List Int} (h : l.length ≤ 700) : (padded l).length / 64 ≤ 1000 := by
 rw [padded_length]; unfold zerosFor; omega
theorem l2Sha_l1 {s : List Int} (hs : Words s) (h8 : s.length = 8) (d : Nat) : ∀ n : Nat, n + d = 8 → Ev (fun k => spec_l2Sha.l1 k s (packs s n) (n : Int)) (packs s 8) := by
 induction d with
 | zero =>
  intro n h
  obtain rfl : n = 8 := by omega
  exact Ev.ret fun k => by simp only [spec_l2Sha.l1]; rw [if_neg (by decide)]
 | succ d ih =>
  intro n h
  refine Ev.step (fun k => ?_) (ih (n + 1) (by omega))
  simp only [spec_l2Sha.l1]
  rw [if_pos (by omega), if_pos (by omega), if_pos (by omega), l1Pack_eq (hs.rd _)]
  simp only [Option.bind_some]
  rw [if_pos (by rw [packs_length]; simp [pack4]; omega), w64 (by omega) (by omega)]; rfl
theorem l2Sha_l0 {p : List Int} {m : Nat} (hb : Bytes p) (hp : p.length = 64 * m) (hm : m ≤ 1000) (d : Nat) : ∀ n : Nat, n + d = m → Ev (fun k => spec_l2Sha.l0 k p (shaN p start8 n) ((64 * n : Nat) : Int)) (packs (shaN p start8 m) 8) := by
 induction d with
 | zero =>
  intro n h
  obtain rfl : n = m := by omega
  refine Ev.step (fun k => ?_) (l2Sha_l1 (shaN_words p start8 start8_words n) (shaN_length p start8 rfl n) 8 0 rfl)
  simp only [spec_l2Sha.l0, hp]; rw [if_neg (by omega)]; rfl
 | succ d ih =>
  intro n h
  obtain ⟨c0, c1, c2, c3, c4⟩ := blk_ifs hm (show n < m by omega)
  refine Ev.step (fun k => by simp only [spec_l2Sha.l0, hp, c4, Int.toNat_natCast]; rfl) (Ev.pos c0 (Ev.pos c1 (Ev.pos c2 (Ev.pos c3 (Ev.bind (l2Compress_ev (shaN_words p start8 start8_words n) (shaN_length p start8 rfl n) ((hb.take _).drop _) (blk_len hp (by omega))) ?_)))))
  exact ih (n + 1) (by omega)
theorem l2Sha_ev {l : List Int} (hb : Bytes l) (hl : l.length ≤ 700) : Ev (fun k => spec_l2Sha.f k l) (shaOf l) := by
 unfold spec_l2Sha.f
 refine Ev.bind (l2Pad_ev l (by omega)) ?_
 exact l2Sha_l0 (padded_bytes hb) (padded_64 l) (padded_few hl) ((padded l).length / 64) 0 (Nat.zero_add _)
theorem sha_l1 {s : List Int} (h8 : s.length = 8) (d : Nat) : ∀ n : Nat, n + d = 8 → Ev (fun k => impl_sha.l1 k (packs s n) s 8 (n : Int)) (packs s 8) := by
 induction d with
 | zero =>
  intro n h
  obtain rfl : n = 8 := by omega
  exact Ev.ret fun k => by simp only [impl_sha.l1]; rw [if_neg (by decide)]
 | succ d ih =>
  intro n h
  refine Ev.step (fun k => ?_) (ih (n + 1) (by omega))
  simp only [impl_sha.l1]
  rw [if_pos (by omega), if_pos (by omega), if_pos (by omega), four_eq]
  simp only [Option.bind_some]
  rw [if_pos (by rw [packs_length]; simp [pack4]; omega), w64 (by omega) (by omega)]; rfl
theorem sha_l0 {p : List Int} {m : Nat} (hb : Bytes p) (hp : p.length = 64 * m) (hm : m ≤ 1000) (d : Nat) : ∀ n : Nat, n + d = m → Ev (fun k => impl_sha.l0 k p (shaN p start8 n) ((64 * n : Nat) : Int)) (packs (shaN p start8 m) 8) := by
 induction d with
 | zero =>
  intro n h
  obtain rfl : n = m := by omega
  have h8 := shaN_length p start8 rfl n
  refine Ev.step (fun k => ?_) (sha_l1 h8 8 0 rfl)
  simp only [impl_sha.l0, hp, h8]; rw [if_neg (by omega)]; rfl
 | succ d ih =>
  intro n h
  obtain ⟨c0, c1, c2, c3, c4⟩ := blk_ifs hm (show n < m by omega)
  refine Ev.step (fun k => by simp only [impl_sha.l0, hp, c4, Int.toNat_natCast]; rfl) (Ev.pos c0 (Ev.pos c1 (Ev.pos c2 (Ev.pos c3 (Ev.bind (compress_ev (shaN_words p start8 start8_words n) (shaN_length p start8 rfl n) ((hb.take _).drop _) (blk_len hp (by omega))) ?_)))))
  exact ih (n + 1) (by omega)
theorem sha_ev {l : List Int} (hb : Bytes l) (hl : l.length ≤ 700) : Ev (fun k => impl_sha.f k l) (shaOf l) := by
 unfold impl_sha.f
 refine Ev.bind (implPadMessage_ev l) ?_
 have e : padR l = (0, padded l) := by unfold padR; rw [if_neg (by omega)]
 rw [e]
 exact sha_l0 (padded_bytes hb) (padded_64 l) (padded_few hl) ((padded l).length / 64) 0 (Nat.zero_add _)
theorem implSha256_ev {l : List Int} (hb : Bytes l) : Ev (fun k => impl_Sha256.f k l) (shaR l) := by
 unfold impl_Sha256.f shaR
 by_cases h : l.length > 700
 · rw [if_pos h]; exact Ev.pos (by omega) (Ev.now _)
 · rw [if_neg h]; exact Ev.neg (by omega) (Ev.bind (sha_ev hb (by omega)) (Ev.now _))
theorem l3Block_l1 {b : List Int} {w : Int} (hb : Bytes b) (hl : b.length = 64) (hw : 0 ≤ w ∧ w ≤ 255) (d : Nat) : ∀ n : Nat, n + d = 64 → Ev (fun k => spec_l3Block.l1 k w (xw b w n) (n : Int)) (xorWith b w) := by
 induction d with
 | zero =>
  intro n h
  obtain rfl : n = 64 := by omega
  exact Ev.ret fun k => by simp only [spec_l3Block.l1]; rw [if_neg (by decide), xw_all hl]
 | succ d ih =>
  intro n h
  have hn : n < b.length := by omega
  refine Ev.step (fun k => ?_) (ih (n + 1) (by omega))
  simp only [spec_l3Block.l1, xw_rd hn, xw_length, bxor8_eq (hb.rd (n : Int)) hw, Int.toNat_natCast, xw_set hn]
  rw [if_pos (by omega), if_pos (by omega), if_pos (by omega), w64 (by omega) (by omega)]; rfl
theorem l3Block_l0 {w : Int} (hw : 0 ≤ w ∧ w ≤ 255) (d : Nat) : ∀ x : List Int, Bytes x → x.length + d = 64 → Ev (fun k => spec_l3Block.l0 k w x) (xorWith (x ++ List.replicate d 0) w) := by
 induction d with
 | zero =>
  intro x hx h
  have hl : x.length = 64 := by omega
  refine Ev.step (fun k => ?_) (by have := l3Block_l1 hx hl hw 64 0 rfl; rw [xw_zero] at this; rw [List.replicate_zero, List.append_nil]; exact this)
  simp only [spec_l3Block.l0, hl]; rw [if_neg (by decide)]; rfl
 | succ d ih =>
  intro x hx h
  have e : x ++ List.replicate (d + 1) 0 = x ++ [0] ++ List.replicate d 0 := by rw [List.append_assoc, List.replicate_succ, List.singleton_append]
  rw [e]
  refine Ev.step (fun k => ?_) (ih (x ++ [0]) (hx.append (Bytes.replicate 1)) (by rw [List.length_append, List.length_singleton]; omega))
  simp only [spec_l3Block.l0]; rw [if_pos (by omega), if_pos (by omega)]
theorem l3Block_j0 {w : Int} (hw : 0 ≤ w ∧ w ≤ 255) {x : List Int} (hx : Bytes x) (h : x.length ≤ 64) : Ev (fun k => spec_l3Block.j0 k w x) (xorWith (x ++ List.replicate (64 - x.length) 0) w) :=
 Ev.step (fun k => by simp only [spec_l3Block.j0] <;> rfl) (l3Block_l0 hw (64 - x.length) x hx (by omega))
theorem l3Block_ev {key : List Int} {w : Int} (hb : Bytes key) (hl : key.length ≤ 700) (hw : 0 ≤ w ∧ w ≤ 255) : Ev (fun k => spec_l3Block.f k key w) (xorWith (block64 key) w) := by
 unfold spec_l3Block.f
 rw [l1Copy_eq key (by omega), block64_eq]; simp only [Option.bind_some]
 have hj := l3Block_j0 hw (keyOf0_bytes hb) (keyOf0_len key)
 by_cases h : key.length > 64
 ·
  have e : keyOf0 key = shaOf key := by unfold keyOf0; rw [if_pos h]
  rw [e] at hj ⊢
  exact Ev.pos (by omega) (Ev.bind (l2Sha_ev hb hl) hj)
 ·
  have e : keyOf0 key = key := by unfold keyOf0; rw [if_neg h]
  rw [e] at hj ⊢
  exact Ev.neg (by omega) hj
theorem xorWith_length (l : List Int) (b : Int) : (xorWith l b).length = l.length := List.length_map _
theorem l3Hmac_ev {key data : List Int} (hk : Bytes key) (hd : Bytes data) (hkl : key.length ≤ 700) (hdl : data.length ≤ 600) : Ev (fun k => spec_l3Hmac.f k key data) (hmacOf key data) := by
 have b1 := block64_bytes hk
 have x1 := xorWith_bytes b1 (b := 54) (by omega)
 have x2 := xorWith_bytes b1 (b := 92) (by omega)
 have n1 : (xorWith (block64 key) 54).length = 64 := by rw [xorWith_length, block64_length]
 have n2 : (xorWith (block64 key) 92).length = 64 := by rw [xorWith_length, block64_length]
 have n3 := shaOf_length (xorWith (block64 key) 54 ++ data)
 unfold spec_l3Hmac.f hmacOf
 refine Ev.bind (l3Block_ev hk hkl (by omega)) (Ev.pos (by omega) (Ev.bind (l2Sha_ev (x1.append hd) (by rw [List.length_append]; omega)) (Ev.bind (l3Block_ev hk hkl (by omega)) (Ev.pos (by omega) (Ev.bind (l2Sha_ev (x2.append (shaOf_bytes _)) (by rw [List.length_append]; omega)) (Ev.now _))))))
theorem specHmacSha_ev {key data : List Int} (hk : Bytes key) (hd : Bytes data) : Ev (fun k => spec_HmacSha.f k key data) (hmacR key data) := by
 unfold spec_HmacSha.f hmacR
 by_cases h1 : key.length > 200
 · rw [if_pos (Or.inl h1)]; exact Ev.pos (by omega) (Ev.now _)
 by_cases h2 : data.length > 600
 · rw [if_pos (Or.inr h2)]; exact Ev.neg (by omega) (Ev.pos (by omega) (Ev.now _))
 ·
  rw [if_neg (by omega)]
  exact Ev.neg (by omega) (Ev.neg (by omega) (Ev.bind (l3Hmac_ev hk hd (by omega) (by omega)) (Ev.now _)))
theorem implHmac_l1 {b data : List Int} (hb : Bytes b) (hl : b.length = 64) (hd : Bytes data) (hdl : data.length ≤ 600) (d : Nat) : ∀ n : Nat, n + d = 64 → Ev (fun k => impl_HmacSha.l1 k data ((b.take n).map fun x => xr x 54) ((b.take n).map fun x => xr x 92) b 64 (n : Int)) (0, shaOf (xorWith b 92 ++ shaOf (xorWith b 54 ++ data))) := by
 induction d with
 | zero =>
  intro n h
  obtain rfl : n = 64 := by omega
  have e1 : (b.take 64).map (fun x => xr x 54) = xorWith b 54 := by rw [List.take_of_length_le (by omega)]; rfl
  have e2 : (b.take 64).map (fun x => xr x 92) = xorWith b 92 := by rw [List.take_of_length_le (by omega)]; rfl
  rw [e1, e2]
  have x1 := xorWith_bytes hb (b := 54) (by omega)
  have x2 := xorWith_bytes hb (b := 92) (by omega)
  have n1 : (xorWith b 54).length = 64 := by rw [← hl]; exact List.length_map _
  have n2 : (xorWith b 92).length = 64 := by rw [← hl]; exact List.length_map _
  have n3 := shaOf_length (xorWith b 54 ++ data)
  have s1 := sha_ev (x1.append hd) (by rw [List.length_append, n1]; omega)
  have s2 := sha_ev (x2.append (shaOf_bytes (xorWith b 54 ++ data))) (by rw [List.length_append, n2, n3]; omega)
  have t0 : ¬ (((64 : Nat) : Int) < 64) := by decide
  have t1 : (xorWith b 54).length + data.length < 140737488355328 := by omega
  have t2 : (xorWith b 92).length + (shaOf (xorWith b 54 ++ data)).length < 140737488355328 := by rw [n2, n3]; omega
  generalize xorWith b 54 = y1 at *
  generalize shaOf (y1 ++ data) = y2 at *
  generalize xorWith b 92 = y3 at *
  refine Ev.step (f := fun k => ((impl_sha.f k (y1 ++ data)).bind fun t461 => (if y3.length + t461.length < 140737488355328 then ((impl_sha.f k (y3 ++ t461)).bind fun t467 => (some (0, t467))) else (none)))) (fun k => ?_) ?_
  · simp only [impl_HmacSha.l1, if_neg t0, if_pos t1]
  · exact Ev.bind s1 (Ev.pos t2 (Ev.bind s2 (Ev.now _)))
 | succ d ih =>
  intro n h
  have hn : n < b.length := by omega
  have l1 : ((b.take n).map fun x => xr x 54).length ≤ 64 := by rw [List.length_map, List.length_take]; omega
  have l2 : ((b.take n).map fun x => xr x 92).length ≤ 64 := by rw [List.length_map, List.length_take]; omega
  refine Ev.step (fun k => ?_) (ih (n + 1) (by omega))
  simp only [impl_HmacSha.l1, bxor8_eq (hb.rd (n : Int)) (show (0 : Int) ≤ 54 ∧ (54 : Int) ≤ 255 by omega), bxor8_eq (hb.rd (n : Int)) (show (0 : Int) ≤ 92 ∧ (92 : Int) ≤ 255 by omega), mapx_snoc hn]
  rw [if_pos (by omega), if_pos (by omega), if_pos (by omega), if_pos (by omega), if_pos (by omega), w64 (by omega) (by omega)]; rfl
theorem implHmac_l0 {data : List Int} (hd : Bytes data) (hdl : data.length ≤ 600) (d : Nat) : ∀ x : List Int, Bytes x → x.length + d = 64 → Ev (fun k => impl_HmacSha.l0 k data x) (0, shaOf (xorWith (x ++ List.replicate d 0) 92 ++ shaOf (xorWith (x ++ List.replicate d 0) 54 ++ data))) := by
 induction d with
 | zero =>
  intro x hx h
  have hl : x.length = 64 := by omega
  refine Ev.step (fun k => ?_) (by rw [List.replicate_zero, List.append_nil]; exact implHmac_l1 hx hl hd hdl 64 0 rfl)
  simp only [impl_HmacSha.l0, hl]; rw [if_neg (by decide)]; rfl
 | succ d ih =>
  intro x hx h
  have e : x ++ List.replicate (d + 1) 0 = x ++ [0] ++ List.replicate d 0 := by rw [List.append_assoc, List.replicate_succ, List.singleton_append]
  rw [e]
  refine Ev.step (fun k => ?_) (ih (x ++ [0]) (hx.append (Bytes.replicate 1)) (by rw [List.length_append, List.length_singleton]; omega))
  simp only [impl_HmacSha.l0]; rw [if_pos (by omega), if_pos (by omega)]
theorem implHmac_j1 {key data : List Int} (hk : Bytes key) (hd : Bytes data) (hdl : data.length ≤ 600) : Ev (fun k => impl_HmacSha.j1 k data (keyOf0 key)) (0, hmacOf key data) := by
 have := keyOf0_len key
 have h := implHmac_l0 hd hdl (64 - (keyOf0 key).length) (keyOf0 key) (keyOf0_bytes hk) (by omega)
 rw [← block64_eq] at h
 exact Ev.step (fun k => by simp only [impl_HmacSha.j1] <;> rfl) h
theorem implHmac_j0 {key data : List Int} (hk : Bytes key) (hd : Bytes data) (hkl : key.length ≤ 200) (hdl : data.length ≤ 600) : Ev (fun k => impl_HmacSha.j0 k key data false) (0, hmacOf key data) := by
 have hj := implHmac_j1 hk hd hdl
 refine Ev.step (fun k => by simp only [impl_HmacSha.j0, CloneB_eq key (show key.length < 140737488355328 by omega), Option.bind_some]; rfl) (Ev.neg (by decide) ?_)
 by_cases h : key.length > 64
 ·
  have e : keyOf0 key = shaOf key := by unfold keyOf0; rw [if_pos h]
  rw [e] at hj
  exact Ev.pos (by omega) (Ev.bind (sha_ev hk (by omega)) hj)
 ·
  have e : keyOf0 key = key := by unfold keyOf0; rw [if_neg h]
  rw [e] at hj
  exact Ev.neg (by omega) hj
theorem implHmacSha_ev {key data : List Int} (hk : Bytes key) (hd : Bytes data) : Ev (fun k => impl_HmacSha.f k key data) (hmacR key data) := by
 unfold impl_HmacSha.f hmacR
 by_cases h1 : key.length > 200
 ·
  rw [if_pos (Or.inl h1)]
  exact Ev.pos (by omega) (Ev.ret fun k => by simp [impl_HmacSha.j0])
 by_cases h2 : data.length > 600
 ·
  rw [if_pos (Or.inr h2), decide_eq_true (show (data.length : Int) > 600 by omega)]
  exact Ev.neg (by omega) (Ev.ret fun k => by simp [impl_HmacSha.j0])
 ·
  rw [if_neg (by omega), decide_eq_false (show ¬ (data.length : Int) > 600 by omega)]
  exact Ev.neg (by omega) (implHmac_j0 hk hd (by omega) (by omega))
theorem DrawHmacSha_ok {c : List Int} (hb : Bytes c) (hl : c.length ≤ 1048576) : ∃ a b, Ev (fun k => spec_DrawHmacSha.f k c) (a, b) ∧ Bytes a ∧ Bytes b ∧ a.length ≤ 201 ∧ b.length ≤ 601 := by
 unfold spec_DrawHmacSha.f
 rw [l1Source_eq]; simp only [Option.bind_some]
 obtain ⟨n, hn, nm⟩ := l1Pick_ok hb hl (s := 0) (by omega) (by omega) [0, 1, 16, 64, 65, 90] (by simp)
 rw [hn]; simp only [Option.bind_some]
 obtain ⟨m, hm, mm⟩ := l1Pick_ok hb hl (s := 0 + 1) (by omega) (by omega) [0, 3, 20, 60] (by simp)
 rw [hm]; simp only [Option.bind_some]
 obtain ⟨q, hq⟩ := l1Chance_ok hb hl (s := 0 + 1 + 1) (by omega) (by omega) (n := 20) (by omega)
 rw [hq]; simp only [Option.bind_some]
 have n0 : 0 ≤ n ∧ n ≤ 90 := by
  simp only [List.mem_cons, List.not_mem_nil, or_false] at nm
  rcases nm with rfl | rfl | rfl | rfl | rfl | rfl <;> omega
 have m0 : 0 ≤ m ∧ m ≤ 60 := by
  simp only [List.mem_cons, List.not_mem_nil, or_false] at mm
  rcases mm with rfl | rfl | rfl | rfl <;> omega
 cases q with
 | false =>
  obtain ⟨a, a1, a2, a3⟩ := l1Some_ok hb hl (s := 0 + 1 + 1 + 1) (n := n) (by omega) (by omega) n0.1 (by omega)
  obtain ⟨b, b1, b2, b3⟩ := l1Some_ok hb hl (s := 0 + 1 + 1 + 1 + n) (n := m) (by omega) (by omega) m0.1 (by omega)
  exact ⟨a, b, by simp only [Bool.false_eq_true, if_false]; exact Ev.bind a1 (Ev.bind b1 (Ev.now _)), a2, b2, by omega, by omega⟩
 | true =>
  obtain ⟨x, hx, xm⟩ := l1Pick_ok hb hl (s := 0 + 1 + 1 + 1) (by omega) (by omega) [200, 201] (by simp)
  obtain ⟨y, hy, ym⟩ := l1Pick_ok hb hl (s := 0 + 1 + 1 + 1 + 1) (by omega) (by omega) [600, 601] (by simp)
  have x0 : 0 ≤ x ∧ x ≤ 201 := by
   simp only [List.mem_cons, List.not_mem_nil, or_false] at xm
   rcases xm with rfl | rfl <;> omega
  have y0 : 0 ≤ y ∧ y ≤ 601 := by
   simp only [List.mem_cons, List.not_mem_nil, or_false] at ym
   rcases ym with rfl | rfl <;> omega
  obtain ⟨a, a1, a2, a3⟩ := l1Some_ok hb hl (s := 0 + 1 + 1 + 1 + 1 + 1) (n := x) (by omega) (by omega) x0.1 (by omega)
  obtain ⟨b, b1, b2, b3⟩ := l1Some_ok hb hl (s := 0 + 1 + 1 + 1 + 1 + 1 + x) (n := y) (by omega) (by omega) y0.1 (by omega)
  exact ⟨a, b, by simp only [if_true]; rw [hx]; simp only [Option.bind_some]; rw [hy]; simp only [Option.bind_some]; exact Ev.bind a1 (Ev.bind b1 (Ev.now _)), a2, b2, by omega, by omega⟩
theorem DrawSameMac_ok {c : List Int} (hb : Bytes c) (hl : c.length ≤ 1048576) : ∃ a b, Ev (fun k => spec_DrawSameMac.f k c) (a, b) ∧ Bytes a ∧ Bytes b ∧ a.length ≤ 33 ∧ b.length ≤ 33 := by
 unfold spec_DrawSameMac.f
 rw [l1Source_eq]; simp only [Option.bind_some]
 obtain ⟨n, hn, nm⟩ := l1Pick_ok hb hl (s := 0) (by omega) (by omega) [32, 32, 32, 31, 33] (by simp)
 rw [hn]; simp only [Option.bind_some]
 have n0 : 31 ≤ n ∧ n ≤ 33 := by
  simp only [List.mem_cons, List.not_mem_nil, or_false] at nm
  rcases nm with rfl | rfl | rfl | rfl | rfl <;> omega
 obtain ⟨a, a1, a2, a3⟩ := l1Some_ok hb hl (s := 0 + 1) (n := n) (by omega) (by omega) (by omega) (by omega)
 obtain ⟨q, hq, q0, q1⟩ := l1Next_ok hb hl (s := 0 + 1 + n) (by omega) (by omega) (n := 4) (by omega)
 by_cases c0 : q = 0
 ·
  obtain ⟨i, hi, i0, i1⟩ := l1Next_ok hb hl (s := 0 + 1 + n + 1) (by omega) (by omega) (n := (a.length : Int)) (by omega)
  obtain ⟨m, hm, m0, m1⟩ := l1Next_ok hb hl (s := 0 + 1 + n + 1 + 1) (by omega) (by omega) (n := 255) (by omega)
  refine ⟨a, a.set i.toNat (Go.bits .xor .u8 (rd a i) ((wrap64 (1 + m)) % 256)), Ev.bind a1 ?_, a2, ?_, by omega, by rw [List.length_set]; omega⟩
  · refine Ev.bind (Ev.all fun _ => l1Copy_eq a (by omega)) (Ev.bind (Ev.all fun _ => hq) (Ev.pos c0 (Ev.bind (Ev.all fun _ => hi) (Ev.pos i0 (Ev.pos i1 (Ev.bind (Ev.all fun _ => hm) (Ev.now _)))))))
  ·
   intro x hx
   rcases List.mem_or_eq_of_mem_set hx with h | rfl
   · exact a2 x h
   ·
    rw [w64 (by omega) (by omega), bxor8_eq (a2.rd i) (by omega)]
    exact xr_byte (a2.rd i) (by omega)
 by_cases c1 : q = 1
 ·
  obtain ⟨b, b1, b2, b3⟩ := l1Some_ok hb hl (s := 0 + 1 + n + 1) (n := 32) (by omega) (by omega) (by omega) (by omega)
  exact ⟨a, b, Ev.bind a1 (Ev.bind (Ev.all fun _ => l1Copy_eq a (by omega)) (Ev.bind (Ev.all fun _ => hq) (Ev.neg c0 (Ev.pos c1 (Ev.bind b1 (Ev.now _)))))), a2, b2, by omega, by omega⟩
 · exact ⟨a, a, Ev.bind a1 (Ev.bind (Ev.all fun _ => l1Copy_eq a (by omega)) (Ev.bind (Ev.all fun _ => hq) (Ev.neg c0 (Ev.neg c1 (Ev.now _))))), a2, a2, by omega, by omega⟩
theorem FnMacs_j2 {c m : List Int} (hb : Bytes c) (hl : c.length ≤ 1048576) (hm : Bytes m) (h32 : m.length = 32) : Ev (fun k => laws_FnMacs.j2 k c false 0 m) true := by
 have s1 : sameMac m m = true := by unfold sameMac; rw [decide_eq_true h32, beq_self_eq_true]; rfl
 obtain ⟨i, hi, i0, i1⟩ := lwAt_ok hb hl (s := 2) (by omega) (by omega) (n := 32) (by omega)
 obtain ⟨q, hq, q0, q1⟩ := lwAt_ok hb hl (s := 3) (by omega) (by omega) (n := 255) (by omega)
 have i2 : i < (m.length : Int) := by rw [h32]; exact i1
 have hw : wrap64 (1 + q) = 1 + q := w64 (by omega) (by omega)
 obtain ⟨j, hj, e1, e2⟩ := turned_get (m := q) i0 i2
 have hne : ¬ m = m.set i.toNat (xr (rd m i) (1 + q)) := by
  intro h
  have h1 : (m.set i.toNat (xr (rd m i) (1 + q)))[j]'(by rw [List.length_set]; exact hj) = m[j] := by
   congr 1; exact h.symm
  rw [List.getElem_set, if_pos e1, e2] at h1
  exact xr_ne (hm _ (List.getElem_mem hj)).1 (by omega) h1
 have s2 : sameMac m (m.set i.toNat (xr (rd m i) (1 + q))) = false := by
  unfold sameMac
  have : (m == m.set i.toNat (xr (rd m i) (1 + q))) = false := by simpa using hne
  rw [this, Bool.and_false]
 have f1 := implSameMac_ev m m (by omega)
 have f2 := implSameMac_ev m (m.set i.toNat (xr (rd m i) (1 + q))) (by omega)
 rw [s1] at f1
 rw [s2] at f2
 have ht := lwTurned_eq hm (show m.length ≤ 4000000000 by omega) i0 i2 (show 1 ≤ 1 + q by omega) (show 1 + q ≤ 255 by omega)
 refine Ev.step (fun k => by simp only [laws_FnMacs.j2, hw]; rfl) (Ev.neg (by decide) (Ev.bind f1 (Ev.pos rfl (Ev.bind (Ev.all fun _ => hi) (Ev.bind (Ev.all fun _ => hq) (Ev.bind (Ev.all fun _ => show laws_lwTurned.f m i (wrap64 (1 + q)) = some _ from by rw [hw]; exact ht) ?_))))))
 refine Ev.bind f2 ?_
 exact Ev.all fun _ => rfl
theorem FnMacs_j1 {c key data : List Int} (hb : Bytes c) (hl : c.length ≤ 1048576) (hk : Bytes key) (hd : Bytes data) (hkl : key.length ≤ 200) (hdl : data.length ≤ 600) : Ev (fun k => laws_FnMacs.j1 k c key data false 0 (hmacOf key data)) true := by
 have h2 := FnMacs_j2 hb hl (hmacOf_bytes key data) (hmacOf_length key data)
 by_cases h : key.length > 64
 ·
  have e1 : shaR key = (0, shaOf key) := by unfold shaR; rw [if_neg (by omega)]
  have e2 : hmacR (shaOf key) data = (0, hmacOf key data) := by
   unfold hmacR; rw [if_neg (by rw [shaOf_length]; omega), hmacOf_block (block64_sha h)]
  have f1 := implSha256_ev hk
  have f2 := implHmacSha_ev (shaOf_bytes key) hd
  rw [e1] at f1
  rw [e2] at f2
  refine Ev.step (fun k => by simp only [laws_FnMacs.j1]; rfl) (Ev.neg (by decide) (Ev.pos (by omega) (Ev.bind f1 (Ev.bind f2 ?_))))
  refine Ev.bind (Ev.all fun _ => (show laws_lwBytes.f (hmacOf key data) (hmacOf key data) = some true from ?_)) ?_; rotate_left; exact h2
  rw [lwBytes_eq (hmacOf_bytes key data) (hmacOf_bytes key data), beq_self_eq_true]
 · exact Ev.step (fun k => by simp only [laws_FnMacs.j1]; rfl) (Ev.neg (by decide) (Ev.neg (by omega) h2))
theorem FnMacs_j0 {c key data : List Int} (hb : Bytes c) (hl : c.length ≤ 1048576) (hk : Bytes key) (hd : Bytes data) : Ev (fun k => laws_FnMacs.j0 k c key data false (hmacR key data).1 (hmacR key data).2) true := by
 by_cases h0 : key.length > 200 ∨ data.length > 600
 ·
  have e : hmacR key data = (2, []) := by unfold hmacR; rw [if_pos h0]
  rw [e]
  exact Ev.step (fun k => by simp only [laws_FnMacs.j0]; rfl) (Ev.neg (by decide) (Ev.neg (by decide) (Ev.now _)))
 have hkl : key.length ≤ 200 := by omega
 have hdl : data.length ≤ 600 := by omega
 have e : hmacR key data = (0, hmacOf key data) := by unfold hmacR; rw [if_neg h0]
 rw [e]
 have h1 := FnMacs_j1 hb hl hk hd hkl hdl
 by_cases h : key.length < 64
 ·
  have e2 : hmacR (key ++ [0]) data = (0, hmacOf key data) := by
   unfold hmacR; rw [if_neg (by rw [List.length_append, List.length_singleton]; omega), hmacOf_block (block64_snoc h)]
  have f2 := implHmacSha_ev (key := key ++ [0]) (hk.append (Bytes.replicate 1)) hd
  rw [e2] at f2
  refine Ev.step (fun k => by simp only [laws_FnMacs.j0, Option.bind_some, List.nil_append]; rfl) (Ev.neg (by decide) (Ev.pos (by omega) (Ev.pos (by simp; omega) (Ev.pos (by simp; omega) (Ev.bind f2 ?_)))))
  refine Ev.bind (Ev.all fun _ => (show laws_lwBytes.f (hmacOf key data) (hmacOf key data) = some true from ?_)) ?_; rotate_left; exact h1
  rw [lwBytes_eq (hmacOf_bytes key data) (hmacOf_bytes key data), beq_self_eq_true]
 · exact Ev.step (fun k => by simp only [laws_FnMacs.j0]; rfl) (Ev.neg (by decide) (Ev.neg (by omega) h1))
theorem FnMacs : laws_FnMacs.Pure := by
 intro c _ hc1 hc2
 have hb := Bytes.of_wf hc2
 apply Ev.rounds
 unfold laws_FnMacs.f
 simp only [lwBig_eq, Option.bind_some]
 by_cases hbig : (c.length : Int) > 1048576
 · simp only [decide_eq_true hbig, if_true]; exact Ev.now _
 simp only [decide_eq_false hbig, Bool.false_eq_true, if_false]
 have hc : c.length ≤ 1048576 := by omega
 obtain ⟨key, data, hd, k2, d2, k3, d3⟩ := DrawHmacSha_ok hb hc
 obtain ⟨a, b, hs, a2, b2, a3, b3⟩ := DrawSameMac_ok hb hc
 have f := implSameMac_ev b a (by omega)
 rw [sameMac_comm a b] at f
 refine Ev.bind hd (Ev.bind (implHmacSha_ev k2 d2) (Ev.bind hs (Ev.bind (specHmacSha_ev k2 d2) (Ev.pos rfl (Ev.bind (implSameMac_ev a b (by omega)) (Ev.bind (Ev.all fun _ => specSameMac_eq a2 b2) (Ev.neg (by simp) (Ev.bind f (Ev.bind (implSameMac_ev a b (by omega)) ?_)))))))))
 rw [bne_self_eq_false]
 exact FnMacs_j0 hb hc k2 d2
end FnMacs_
theorem FnMacs : laws_FnMacs.Pure := FnMacs_.FnMacs
end Go.Proofs.Ytceobpekmladdaa.Pure
