/- The pure statement of FnExactRotateWord: what the printed functions of the program and of the reference compute makes the law answer true, for all arguments (each number of its kind). -/
import Derived.Test.YtejodldgipnhcaaPFnExactRotateWordx1
import Derived.Test.YtejodldgipnhcaaBase
set_option linter.unusedVariables false
set_option linter.unusedSimpArgs false
namespace Go.Proofs.Ytejodldgipnhcaa.Pure
open Go.RowKit Go.Proofs.Ytejodldgipnhcaa.PFnExactRotateWord Go.Proofs.YtejodldgipnhcaaW.PrintWords Go.Proofs.YtejodldgipnhcaaW.PrintLast Go.Proofs.YtejodldgipnhcaaW.PrintMore Go.Proofs.Ytejodldgipnhcaa.Base
namespace FnExactRotateWord_
theorem l1In_eq (a b c : Int) : spec_l1In.f a b c = some (inB a b c) := ge_le
theorem within_eq (a b c : Int) : impl_within.f a b c = some (inB a b c) := ge_le
theorem l1Word32_eq (a : Int) : spec_l1Word32.f a = some (isWd a) := by
  unfold spec_l1Word32.f; rw [l1In_eq]; rfl
theorem isWord_eq (a : Int) : impl_isWord.f a = some (isWd a) := by
  unfold impl_isWord.f; rw [within_eq]; rfl
theorem eqIntResult_self (a b : Int) : laws_eqIntResult.f a b a b = some true := by
  unfold laws_eqIntResult.f; rw [if_pos rfl, if_pos rfl]
theorem l1Pow_l0 (n : Nat) : ∀ (m : Nat), n + m ≤ 40 → Ev (fun k => spec_l1Pow.l0 k (n : Int) ((2 ^ m : Nat) : Int)) ((2 ^ (n + m) : Nat) : Int) := by
  induction n with
  | zero =>
    intro m _
    exact Ev.ret fun k => by simp only [spec_l1Pow.l0]; rw [if_neg (by omega), Nat.zero_add]
  | succ n ih =>
    intro m hm
    have hp : (2 : Nat) ^ m ≤ 2 ^ 40 := Nat.pow_le_pow_right (by decide) (by omega)
    have hp0 : 0 < (2 : Nat) ^ m := Nat.two_pow_pos m
    refine Ev.step (f := fun k => spec_l1Pow.l0 k (n : Int) ((2 ^ (m + 1) : Nat) : Int)) (fun k => ?_) ?_
    · simp only [spec_l1Pow.l0]
      rw [if_pos (by omega), w64 (by omega) (by omega), w64 (by omega) (by omega)]
      have e1 : ((n + 1 : Nat) : Int) - 1 = (n : Int) := by omega
      have e2 : ((2 ^ m : Nat) : Int) * 2 = ((2 ^ (m + 1) : Nat) : Int) := by rw [Nat.pow_succ]; omega
      rw [e1, e2]
    · have := ih (m + 1) (by omega)
      rwa [show n + (m + 1) = n + 1 + m by omega] at this
theorem l1Pow_ev (n : Nat) (hn : n ≤ 40) : Ev (fun k => spec_l1Pow.f k (n : Int)) ((2 ^ n : Nat) : Int) := l1Pow_l0 n 0 (by omega)
theorem rot_wrap (A R C : Nat) (hA : A ≤ 4294967295) (hC : C ≤ 4294967296) (hR : R * C ≤ 4294967296) : wrap64 (wrap64 (A : Int) + wrap64 ((R : Int) * wrap64 (C : Int))) = ((A + R * C : Nat) : Int) := by
  rw [w64 (x := (C : Int)) (by omega) (by omega), ← Int.natCast_mul]
  generalize R * C = z at *
  rw [w64 (x := (A : Int)) (by omega) (by omega), w64 (x := (z : Int)) (by omega) (by omega), w64 (by omega) (by omega)]; rfl
theorem l1Rotate_ev {w : Int} (hw : Wd w) (n : Nat) (hn : n ≤ 32) : Ev (fun k => spec_l1Rotate.f k w (n : Int)) (rot w n) := by
  obtain ⟨h0, h1⟩ := hw
  obtain ⟨a, rfl⟩ := Int.eq_ofNat_of_zero_le h0
  have hp : 0 < 2 ^ n := Nat.two_pow_pos n
  have e := two_pow_split hn
  obtain ⟨h2, h3⟩ := rot_nat_lt (a := a) (by omega) hn
  have hq : 2 ^ (32 - n) ≤ 4294967296 := by rw [← e]; exact Nat.le_mul_of_pos_left _ hp
  have hd : a / 2 ^ n ≤ a := Nat.div_le_self _ _
  have d1 : Int.tdiv (a : Int) ((2 ^ n : Nat) : Int) = ((a / 2 ^ n : Nat) : Int) := (Int.ofNat_tdiv _ _).symm
  have d2 : Int.tmod (a : Int) ((2 ^ n : Nat) : Int) = ((a % 2 ^ n : Nat) : Int) := (Int.ofNat_tmod _ _).symm
  have d3 : Int.tdiv (4294967296 : Int) ((2 ^ n : Nat) : Int) = ((2 ^ (32 - n) : Nat) : Int) := by
    have h5 : (4294967296 : Int) = ((4294967296 : Nat) : Int) := rfl
    rw [h5, ← Int.ofNat_tdiv, ← e, Nat.mul_div_cancel_left _ hp]
  have er : rot (a : Int) n = ((a / 2 ^ n + a % 2 ^ n * 2 ^ (32 - n) : Nat) : Int) := by unfold rot; rw [Int.toNat_natCast]
  unfold spec_l1Rotate.f
  refine Ev.bind (l1Pow_ev n (by omega)) ?_
  generalize hP : 2 ^ n = P at *
  refine Ev.neg (show ¬ (P : Int) = 0 by omega) ?_
  rw [d1, d2, d3, rot_wrap _ _ _ (Nat.le_trans hd (by omega)) hq (Nat.le_trans (Nat.le_add_right _ _) h3), er]
  exact Ev.now _
theorem wrap_low (z : Nat) : (((z : Int) + 9223372036854775808) % 18446744073709551616 - 9223372036854775808) % 4294967296 = ((z % 4294967296 : Nat) : Int) := by omega
theorem mod_low (z : Nat) : ((z : Int) % 4294967296).toNat = z % 4294967296 := by omega
theorem rotate_eq {w : Int} (hw : Wd w) (n : Nat) (hn : n ≤ 32) : impl_rotate.f w (n : Int) = some (rot w n) := by
  obtain ⟨h0, h1⟩ := hw
  obtain ⟨a, rfl⟩ := Int.eq_ofNat_of_zero_le h0
  have two : ((2 : Nat) : Int) = 2 := rfl
  have ew : wrap64 (32 - (n : Int)) = ((32 - n : Nat) : Int) := by rw [w64 (by omega) (by omega)]; omega
  have es : shr .i64 (a : Int) (n : Int) = ((a / 2 ^ n : Nat) : Int) := by
    unfold shr
    rw [Int.toNat_natCast, Nat.min_eq_left (show n ≤ IntKind.i64.bits by show n ≤ 64; omega), Int.natCast_ediv, Int.natCast_pow, two]
  have el : shl .i64 (a : Int) ((32 - n : Nat) : Int) % 4294967296 = ((a * 2 ^ (32 - n) % 4294967296 : Nat) : Int) := by
    unfold shl
    have h5 : (a : Int) * 2 ^ (32 - n) = ((a * 2 ^ (32 - n) : Nat) : Int) := by rw [Int.natCast_mul, Int.natCast_pow, two]
    rw [Int.toNat_natCast, Nat.min_eq_left (show 32 - n ≤ IntKind.i64.bits by show 32 - n ≤ 64; omega), IntKind.wrap_i64, h5]
    exact wrap_low _
  have h := rot_or (a := a) (n := n) (by omega) hn
  have t1 : (((a / 2 ^ n : Nat) : Int) % 4294967296).toNat = (a / 2 ^ n) % 4294967296 := mod_low _
  unfold impl_rotate.f
  rw [if_pos (show 0 ≤ (n : Int) by omega), ew, if_pos (show 0 ≤ ((32 - n : Nat) : Int) by omega), band_mask, bor_mask, es, el, t1, Int.toNat_natCast, h]
  unfold rot
  rw [Int.toNat_natCast]
def rotW (w n : Int) : Int × Int := if (isWd w && inB n 0 31) = true then (0, rot w n.toNat) else (3, 0)
theorem specRotateWord_ev (w n : Int) : Ev (fun k => spec_RotateWord.f k w n) (rotW w n) := by
  unfold spec_RotateWord.f rotW
  simp only [l1Word32_eq, l1In_eq, Option.bind_some]
  cases ha : isWd w with
  | false => exact Ev.now _
  | true =>
    cases hb : inB n 0 31 with
    | false => exact Ev.now _
    | true =>
      simp only [if_true, Bool.and_self]
      have h := inB_true.1 hb
      obtain ⟨m, rfl⟩ := Int.eq_ofNat_of_zero_le h.1
      exact Ev.bind (l1Rotate_ev (isWd_true.1 ha) m (by omega)) (Ev.now _)
theorem implRotateWord_eq (w n : Int) : impl_RotateWord.f w n = some (rotW w n) := by
  unfold impl_RotateWord.f rotW
  simp only [isWord_eq, within_eq, Option.bind_some]
  cases ha : isWd w with
  | false => rfl
  | true =>
    cases hb : inB n 0 31 with
    | false => rfl
    | true =>
      simp only [if_true, Bool.and_self]
      have h := inB_true.1 hb
      obtain ⟨m, rfl⟩ := Int.eq_ofNat_of_zero_le h.1
      rw [rotate_eq (isWd_true.1 ha) m (by omega)]; rfl
theorem FnExactRotateWord : laws_FnExactRotateWord.Pure := by
  intro a0 a1 _ _
  apply Ev.rounds
  unfold laws_FnExactRotateWord.f
  refine Ev.bind (specRotateWord_ev a0 a1) ?_
  simp only [implRotateWord_eq, eqIntResult_self, Option.bind_some, if_true]
  exact Ev.now _
end FnExactRotateWord_
theorem FnExactRotateWord : laws_FnExactRotateWord.Pure := FnExactRotateWord_.FnExactRotateWord
end Go.Proofs.Ytejodldgipnhcaa.Pure
