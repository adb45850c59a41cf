/- The pure statement of FnExactSameMac: what the printed functions of the program and of the reference compute makes the law answer true, for all arguments (each number of its kind). -/
import Derived.Test.YtejodldgipnhcaaPFnExactSameMacx1
import Derived.Test.YtejodldgipnhcaaBase
import Derived.Test.YtejodldgipnhcaaSz
set_option linter.unusedVariables false
set_option linter.unusedSimpArgs false
namespace Go.Proofs.Ytejodldgipnhcaa.Pure
open Go.RowKit Go.Proofs.Ytejodldgipnhcaa.PFnExactSameMac Go.Proofs.YtejodldgipnhcaaW.PrintWords Go.Proofs.YtejodldgipnhcaaW.PrintLast Go.Proofs.YtejodldgipnhcaaW.PrintMore Go.Proofs.Ytejodldgipnhcaa.Base
namespace FnExactSameMac_
theorem toByteS_l0 (l : List Int) (hl : l.length ≤ 281474976710656) (d : Nat) : ∀ (i : Nat) (x : List Int), i + d = l.length → x.length = l.length → x.take i = l.take i → Ev (fun k => laws_toByteS.l0 k l x (i : Int)) l := by
  induction d with
  | zero =>
    intro i x h hx ht
    have e : x = l := by
      rw [List.take_of_length_le (by omega), List.take_of_length_le (by omega)] at ht
      exact ht
    subst e
    exact Ev.ret fun k => by simp only [laws_toByteS.l0]; rw [if_neg (by omega)]
  | succ d ih =>
    intro i x h hx ht
    have hi : i < l.length := by omega
    refine Ev.step (f := fun k => laws_toByteS.l0 k l (x.set i l[i]) ((i + 1 : Nat) : Int)) (fun k => ?_) ?_
    · simp only [laws_toByteS.l0]
      rw [if_pos (by omega), if_pos (by omega), if_pos (by omega), rd_nat l i hi, w64 (by omega) (by omega)]
      simp only [Int.toNat_natCast]; rfl
    · refine ih (i + 1) _ (by omega) (by rw [List.length_set]; exact hx) ?_
      rw [List.take_succ_eq_append_getElem (by rw [List.length_set]; omega), List.take_succ_eq_append_getElem hi, List.getElem_set_self, List.take_set_of_le (by omega), ht]
theorem toByteS_ev (l : List Int) (hl : l.length ≤ 281474976710656) : Ev (fun k => laws_toByteS.f k l) l := by
  unfold laws_toByteS.f
  simp only [if_pos (show (0 : Int) ≤ (l.length : Int) by omega), if_pos (show ((l.length : Int) : Int).toNat ≤ 281474976710656 by omega)]
  exact toByteS_l0 l hl l.length 0 _ (by omega) (by simp) (by simp)
theorem eqByteS_l0 (l : List Int) (hl : l.length ≤ 4611686018427387904) (d : Nat) : ∀ i : Nat, i + d = l.length → Ev (fun k => laws_eqByteS.l0 k l l (i : Int)) true := by
  induction d with
  | zero =>
    intro i h
    exact Ev.ret fun k => by simp only [laws_eqByteS.l0]; rw [if_neg (by omega)]
  | succ d ih =>
    intro i h
    refine Ev.step (f := fun k => laws_eqByteS.l0 k l l ((i + 1 : Nat) : Int)) (fun k => ?_) (ih (i + 1) (by omega))
    simp only [laws_eqByteS.l0]
    rw [if_pos (by omega), if_pos (by omega), if_pos (by omega), if_pos (by trivial), w64 (by omega) (by omega)]; rfl
theorem eqByteS_self (l : List Int) (hl : l.length ≤ 4611686018427387904) : Ev (fun k => laws_eqByteS.f k l l) true := by
  unfold laws_eqByteS.f
  simp only [if_true]
  exact eqByteS_l0 l hl l.length 0 (by omega)
theorem slicesEqualB_l0 (l m : List Int) (e : l.length = m.length) (hl : l.length ≤ 4611686018427387904) (d : Nat) : ∀ i : Nat, i + d = l.length → Ev (fun k => slices_Equal_byte_byte.l0 k l m (l.length : Int) (i : Int)) (l.drop i == m.drop i) := by
  induction d with
  | zero =>
    intro i h
    rw [List.drop_of_length_le (by omega), List.drop_of_length_le (by omega)]
    exact Ev.ret fun k => by simp only [slices_Equal_byte_byte.l0]; rw [if_neg (by omega)]; rfl
  | succ d ih =>
    intro i h
    have hi : i < l.length := by omega
    have hm : i < m.length := by omega
    rw [List.drop_eq_getElem_cons hi, List.drop_eq_getElem_cons hm]
    refine Ev.step (f := fun k => if l[i] = m[i] then slices_Equal_byte_byte.l0 k l m (l.length : Int) ((i + 1 : Nat) : Int) else some false) (fun k => ?_) ?_
    · simp only [slices_Equal_byte_byte.l0]
      rw [if_pos (by omega), if_pos (by omega), if_pos (by omega), if_pos (by omega), rd_nat l i hi, rd_nat m i hm, w64 (by omega) (by omega)]; rfl
    · by_cases c : l[i] = m[i]
      · simp only [if_pos c, List.cons_beq_cons, beq_iff_eq.2 c, Bool.true_and]; exact ih (i + 1) (by omega)
      · have c' : (l[i] == m[i]) = false := by simpa using c
        simp only [if_neg c, List.cons_beq_cons, c', Bool.false_and]; exact Ev.now _
theorem slicesEqualB_ev (l m : List Int) (hl : l.length ≤ 4611686018427387904) : Ev (fun k => slices_Equal_byte_byte.f k l m) (l == m) := by
  unfold slices_Equal_byte_byte.f
  by_cases e : l.length = m.length
  · simp only [if_pos (show (l.length : Int) = (m.length : Int) by omega)]
    have := slicesEqualB_l0 l m e hl l.length 0 (by omega)
    rw [List.drop_zero, List.drop_zero] at this
    exact this
  · simp only [if_neg (show ¬ (l.length : Int) = (m.length : Int) by omega)]
    have : (l == m) = false := by
      rw [beq_eq_false_iff_ne]; intro h; exact e (by rw [h])
    rw [this]; exact Ev.now _
def sameMac (a b : List Int) : Bool := decide (a.length = 32) && (a == b)
theorem specSameMac_eq {a b : List Int} (ha : Bytes a) (hb : Bytes b) : spec_SameMac.f a b = some (sameMac a b) := by
  unfold spec_SameMac.f sameMac
  rw [strOf_beq ha hb]
  by_cases h : a.length = 32
  · rw [if_pos (by omega), decide_eq_true h, Bool.true_and]
  · rw [if_neg (by omega), decide_eq_false h, Bool.false_and]
theorem implSameMac_ev (a b : List Int) (hl : a.length ≤ 4611686018427387904) : Ev (fun k => impl_SameMac.f k a b) (sameMac a b) := by
  unfold impl_SameMac.f sameMac
  by_cases h : a.length = 32
  · simp only [if_pos (show (a.length : Int) = 32 by omega), decide_eq_true h, Bool.true_and]
    exact Ev.bind (slicesEqualB_ev a b hl) (Ev.now _)
  · simp only [if_neg (show ¬ (a.length : Int) = 32 by omega), decide_eq_false h, Bool.false_and]
    exact Ev.now _
theorem FnExactSameMac : laws_FnExactSameMac.Pure := by
  intro l0 l1 _ h0 b0 _ h1 b1
  have B0 := Bytes.of_wf b0
  have B1 := Bytes.of_wf b1
  apply Ev.rounds
  unfold laws_FnExactSameMac.f
  split
  · exact Ev.now _
  split
  · exact Ev.now _
  refine Ev.bind (toByteS_ev l0 (by omega)) (Ev.bind (toByteS_ev l1 (by omega)) ?_)
  simp only [specSameMac_eq B0 B1, Option.bind_some]
  refine Ev.bind (toByteS_ev l0 (by omega)) (Ev.bind (toByteS_ev l1 (by omega)) (Ev.bind (implSameMac_ev l0 l1 (by omega)) ?_))
  simp only [bne_self_eq_false, Bool.false_eq_true, if_false]
  refine Ev.bind (toByteS_ev l0 (by omega)) (Ev.bind (eqByteS_self l0 (by omega)) ?_)
  simp only [if_true]
  refine Ev.bind (toByteS_ev l1 (by omega)) (Ev.bind (eqByteS_self l1 (by omega)) ?_)
  simp only [if_true]
  exact Ev.now _
end FnExactSameMac_
theorem FnExactSameMac : laws_FnExactSameMac.Pure := FnExactSameMac_.FnExactSameMac
end Go.Proofs.Ytejodldgipnhcaa.Pure
