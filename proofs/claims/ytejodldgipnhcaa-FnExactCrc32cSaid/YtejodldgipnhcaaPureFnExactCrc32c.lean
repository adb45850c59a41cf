/- The pure statement of FnExactCrc32c: what the printed functions of the program and of the reference compute makes the law answer true, for all arguments (each number of its kind). -/
import Derived.Test.YtejodldgipnhcaaPFnExactCrc32cx2
import Derived.Test.YtejodldgipnhcaaBase
import Derived.Test.YtejodldgipnhcaaSz
set_option linter.unusedVariables false
set_option linter.unusedSimpArgs false
namespace Go.Proofs.Ytejodldgipnhcaa.Pure
open Go.RowKit Go.Proofs.Ytejodldgipnhcaa.PFnExactCrc32c Go.Proofs.YtejodldgipnhcaaW.PrintWords Go.Proofs.YtejodldgipnhcaaW.PrintLast Go.Proofs.YtejodldgipnhcaaW.PrintMore Go.Proofs.Ytejodldgipnhcaa.Base
namespace FnExactCrc32c_
theorem eqIntResult_self (a b : Int) : laws_eqIntResult.f a b a b = some true := by
  unfold laws_eqIntResult.f; rw [if_pos rfl, if_pos rfl]
theorem toByteS_l0 (l : List Int) (hl : l.length ≤ 281474976710656) (d : Nat) : ∀ (i : Nat) (x : List Int), i + d = l.length → x.length = l.length → x.take i = l.take i → Ev (fun k => laws_toByteS.l0 k l x (i : Int)) l := by
  induction d with
  | zero =>
    intro i x h hx ht
    have e : x = l := by
      rw [List.take_of_length_le (by omega), List.take_of_length_le (by omega)] at ht
      exact ht
    subst e
    exact Ev.ret fun k => by simp only [laws_toByteS.l0]; rw [if_neg (by omega)]
  | succ d ih =>
    intro i x h hx ht
    have hi : i < l.length := by omega
    refine Ev.step (f := fun k => laws_toByteS.l0 k l (x.set i l[i]) ((i + 1 : Nat) : Int)) (fun k => ?_) ?_
    · simp only [laws_toByteS.l0]
      rw [if_pos (by omega), if_pos (by omega), if_pos (by omega), rd_nat l i hi, w64 (by omega) (by omega)]
      simp only [Int.toNat_natCast]; rfl
    · refine ih (i + 1) _ (by omega) (by rw [List.length_set]; exact hx) ?_
      rw [List.take_succ_eq_append_getElem (by rw [List.length_set]; omega), List.take_succ_eq_append_getElem hi, List.getElem_set_self, List.take_set_of_le (by omega), ht]
theorem toByteS_ev (l : List Int) (hl : l.length ≤ 281474976710656) : Ev (fun k => laws_toByteS.f k l) l := by
  unfold laws_toByteS.f
  simp only [if_pos (show (0 : Int) ≤ (l.length : Int) by omega), if_pos (show ((l.length : Int) : Int).toNat ≤ 281474976710656 by omega)]
  exact toByteS_l0 l hl l.length 0 _ (by omega) (by simp) (by simp)
theorem eqByteS_l0 (l : List Int) (hl : l.length ≤ 4611686018427387904) (d : Nat) : ∀ i : Nat, i + d = l.length → Ev (fun k => laws_eqByteS.l0 k l l (i : Int)) true := by
  induction d with
  | zero =>
    intro i h
    exact Ev.ret fun k => by simp only [laws_eqByteS.l0]; rw [if_neg (by omega)]
  | succ d ih =>
    intro i h
    refine Ev.step (f := fun k => laws_eqByteS.l0 k l l ((i + 1 : Nat) : Int)) (fun k => ?_) (ih (i + 1) (by omega))
    simp only [laws_eqByteS.l0]
    rw [if_pos (by omega), if_pos (by omega), if_pos (by omega), if_pos (by trivial), w64 (by omega) (by omega)]; rfl
theorem eqByteS_self (l : List Int) (hl : l.length ≤ 4611686018427387904) : Ev (fun k => laws_eqByteS.f k l l) true := by
  unfold laws_eqByteS.f
  simp only [if_true]
  exact eqByteS_l0 l hl l.length 0 (by omega)
theorem l3Crc_l1 (l : List Int) (i : Nat) (hi : i < l.length) (hl : l.length ≤ 4611686018427387904) (r : Int) (d : Nat) : ∀ (j : Nat) (n : Int), j + d = 8 → Wd n → Ev (fun k => spec_l3Crc.l0 k l (crcI d n) ((i + 1 : Nat) : Int)) r → Ev (fun k => spec_l3Crc.l1 k l n (i : Int) (j : Int)) r := by
  induction d with
  | zero =>
    intro j n h hn he
    refine Ev.step (fun k => ?_) he
    simp only [spec_l3Crc.l1]
    rw [if_neg (by omega), w64 (by omega) (by omega)]; rfl
  | succ d ih =>
    intro j n h hn he
    refine Ev.step (f := fun k => spec_l3Crc.l1 k l (crcT n) (i : Int) ((j + 1 : Nat) : Int)) (fun k => ?_) (ih (j + 1) _ (by omega) hn.crcT he)
    obtain ⟨_, _⟩ := id hn
    simp only [spec_l3Crc.l1]
    rw [if_pos (by omega), Int.tmod_eq_emod_of_nonneg (by omega), Int.tdiv_eq_ediv_of_nonneg (by omega), w64 (x := n / 2) (by omega) (by omega), w64 (x := (j : Int) + 1) (by omega) (by omega), hn.half.bxor Wd.poly]
    unfold crcT
    split <;> rfl
theorem l3Crc_l0 (l : List Int) (hb : Bytes l) (hl : l.length ≤ 4611686018427387904) (d : Nat) : ∀ (i : Nat) (n : Int), i + d = l.length → Wd n → Ev (fun k => spec_l3Crc.l0 k l n (i : Int)) (xr (crcF n (l.drop i)) 4294967295) := by
  induction d with
  | zero =>
    intro i n h hn
    rw [List.drop_of_length_le (by omega)]
    exact Ev.ret fun k => by
      simp only [spec_l3Crc.l0]
      rw [if_neg (by omega), hn.bxor Wd.top]; rfl
  | succ d ih =>
    intro i n h hn
    have hi : i < l.length := by omega
    have hx := hb _ (List.getElem_mem hi)
    rw [List.drop_eq_getElem_cons hi]
    have hn2 := hn.xr (Wd.byte hx)
    refine Ev.step (f := fun k => spec_l3Crc.l1 k l (xr n l[i]) (i : Int) 0) (fun k => ?_) (l3Crc_l1 l i hi hl _ 8 0 _ (by omega) hn2 (ih (i + 1) _ (by omega) (hn2.crcI 8)))
    simp only [spec_l3Crc.l0]
    rw [if_pos (by omega), if_pos (by omega), rd_nat l i hi, w64 (by omega) (by omega), hn.bxor (Wd.byte hx)]
theorem l3Crc_ev (l : List Int) (hb : Bytes l) (hl : l.length ≤ 4611686018427387904) : Ev (fun k => spec_l3Crc.f k l) (crcOf l) := l3Crc_l0 l hb hl l.length 0 _ (by omega) Wd.top
theorem crc_l1 (l : List Int) (i : Nat) (hi : i < l.length) (hl : l.length ≤ 4611686018427387904) (r : Int) (d : Nat) : ∀ (j : Nat) (n : Int), j + d = 8 → Wd n → Ev (fun k => impl_crc.l0 k (crcI d n) l (l.length : Int) ((i + 1 : Nat) : Int)) r → Ev (fun k => impl_crc.l1 k n l (l.length : Int) (i : Int) (j : Int)) r := by
  induction d with
  | zero =>
    intro j n h hn he
    refine Ev.step (fun k => ?_) he
    simp only [impl_crc.l1]
    rw [if_neg (by omega), w64 (by omega) (by omega)]; rfl
  | succ d ih =>
    intro j n h hn he
    refine Ev.step (f := fun k => impl_crc.l1 k (crcT n) l (l.length : Int) (i : Int) ((j + 1 : Nat) : Int)) (fun k => ?_) (ih (j + 1) _ (by omega) hn.crcT he)
    simp only [impl_crc.l1]
    rw [if_pos (by omega), band_one, w64 (x := (j : Int) + 1) (by omega) (by omega), hn.half.bxor Wd.poly]
    unfold crcT
    split <;> rfl
theorem crc_l0 (l : List Int) (hb : Bytes l) (hl : l.length ≤ 4611686018427387904) (d : Nat) : ∀ (i : Nat) (n : Int), i + d = l.length → Wd n → Ev (fun k => impl_crc.l0 k n l (l.length : Int) (i : Int)) (xr (crcF n (l.drop i)) 4294967295) := by
  induction d with
  | zero =>
    intro i n h hn
    rw [List.drop_of_length_le (by omega)]
    exact Ev.ret fun k => by
      simp only [impl_crc.l0]
      rw [if_neg (by omega), hn.bxor Wd.top]; rfl
  | succ d ih =>
    intro i n h hn
    have hi : i < l.length := by omega
    have hx := hb _ (List.getElem_mem hi)
    rw [List.drop_eq_getElem_cons hi]
    have hn2 := hn.xr (Wd.byte hx)
    refine Ev.step (f := fun k => impl_crc.l1 k (xr n l[i]) l (l.length : Int) (i : Int) 0) (fun k => ?_) (crc_l1 l i hi hl _ 8 0 _ (by omega) hn2 (ih (i + 1) _ (by omega) (hn2.crcI 8)))
    simp only [impl_crc.l0]
    rw [if_pos (by omega), if_pos (by omega), if_pos (by omega), rd_nat l i hi, w64 (by omega) (by omega), hn.bxor (Wd.byte hx)]
theorem crc_ev (l : List Int) (hb : Bytes l) (hl : l.length ≤ 4611686018427387904) : Ev (fun k => impl_crc.f k l) (crcOf l) := crc_l0 l hb hl l.length 0 _ (by omega) Wd.top
def crcR (l : List Int) : Int × Int := if l.length > 700 then (2, 0) else (0, crcOf l)
theorem specCrc32c_ev (l : List Int) (hb : Bytes l) : Ev (fun k => spec_Crc32c.f k l) (crcR l) := by
  unfold spec_Crc32c.f crcR
  by_cases h : l.length > 700
  · simp only [if_pos (show (l.length : Int) > 700 by omega), if_pos h]; exact Ev.now _
  · simp only [if_neg (show ¬ (l.length : Int) > 700 by omega), if_neg h]; exact Ev.bind (l3Crc_ev l hb (by omega)) (Ev.now _)
theorem implCrc32c_ev (l : List Int) (hb : Bytes l) : Ev (fun k => impl_Crc32c.f k l) (crcR l) := by
  unfold impl_Crc32c.f crcR
  by_cases h : l.length > 700
  · simp only [if_pos (show (l.length : Int) > 700 by omega), if_pos h]; exact Ev.now _
  · simp only [if_neg (show ¬ (l.length : Int) > 700 by omega), if_neg h]; exact Ev.bind (crc_ev l hb (by omega)) (Ev.now _)
theorem FnExactCrc32c : laws_FnExactCrc32c.Pure := by
  intro l0 _ h0 b0
  have B0 := Bytes.of_wf b0
  apply Ev.rounds
  unfold laws_FnExactCrc32c.f
  split
  · exact Ev.now _
  refine Ev.bind (toByteS_ev l0 (by omega)) (Ev.bind (specCrc32c_ev l0 B0) (Ev.bind (toByteS_ev l0 (by omega)) (Ev.bind (implCrc32c_ev l0 B0) ?_)))
  simp only [eqIntResult_self, Option.bind_some, if_true]
  refine Ev.bind (toByteS_ev l0 (by omega)) (Ev.bind (eqByteS_self l0 (by omega)) ?_)
  simp only [if_true]
  exact Ev.now _
end FnExactCrc32c_
theorem FnExactCrc32c : laws_FnExactCrc32c.Pure := FnExactCrc32c_.FnExactCrc32c
end Go.Proofs.Ytejodldgipnhcaa.Pure
