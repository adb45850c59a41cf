/- The pure statement of FnExactWordAt: what the printed functions of the program and of the reference compute makes the law answer true, for all arguments (each number of its kind). -/
import Derived.Test.YtejodldgipnhcaaPFnExactWordAtx1
import Derived.Test.YtejodldgipnhcaaBase
import Derived.Test.YtejodldgipnhcaaSz
set_option linter.unusedVariables false
set_option linter.unusedSimpArgs false
namespace Go.Proofs.Ytejodldgipnhcaa.Pure
open Go.RowKit Go.Proofs.Ytejodldgipnhcaa.PFnExactWordAt Go.Proofs.YtejodldgipnhcaaW.PrintWords Go.Proofs.YtejodldgipnhcaaW.PrintLast Go.Proofs.YtejodldgipnhcaaW.PrintMore Go.Proofs.Ytejodldgipnhcaa.Base
namespace FnExactWordAt_
theorem l1In_eq (a b c : Int) : spec_l1In.f a b c = some (inB a b c) := ge_le
theorem within_eq (a b c : Int) : impl_within.f a b c = some (inB a b c) := ge_le
theorem eqIntResult_self (a b : Int) : laws_eqIntResult.f a b a b = some true := by
  unfold laws_eqIntResult.f; rw [if_pos rfl, if_pos rfl]
theorem toByteS_l0 (l : List Int) (hl : l.length ≤ 281474976710656) (d : Nat) : ∀ (i : Nat) (x : List Int), i + d = l.length → x.length = l.length → x.take i = l.take i → Ev (fun k => laws_toByteS.l0 k l x (i : Int)) l := by
  induction d with
  | zero =>
    intro i x h hx ht
    have e : x = l := by
      rw [List.take_of_length_le (by omega), List.take_of_length_le (by omega)] at ht
      exact ht
    subst e
    exact Ev.ret fun k => by simp only [laws_toByteS.l0]; rw [if_neg (by omega)]
  | succ d ih =>
    intro i x h hx ht
    have hi : i < l.length := by omega
    refine Ev.step (f := fun k => laws_toByteS.l0 k l (x.set i l[i]) ((i + 1 : Nat) : Int)) (fun k => ?_) ?_
    · simp only [laws_toByteS.l0]
      rw [if_pos (by omega), if_pos (by omega), if_pos (by omega), rd_nat l i hi, w64 (by omega) (by omega)]
      simp only [Int.toNat_natCast]; rfl
    · refine ih (i + 1) _ (by omega) (by rw [List.length_set]; exact hx) ?_
      rw [List.take_succ_eq_append_getElem (by rw [List.length_set]; omega), List.take_succ_eq_append_getElem hi, List.getElem_set_self, List.take_set_of_le (by omega), ht]
theorem toByteS_ev (l : List Int) (hl : l.length ≤ 281474976710656) : Ev (fun k => laws_toByteS.f k l) l := by
  unfold laws_toByteS.f
  simp only [if_pos (show (0 : Int) ≤ (l.length : Int) by omega), if_pos (show ((l.length : Int) : Int).toNat ≤ 281474976710656 by omega)]
  exact toByteS_l0 l hl l.length 0 _ (by omega) (by simp) (by simp)
theorem eqByteS_l0 (l : List Int) (hl : l.length ≤ 4611686018427387904) (d : Nat) : ∀ i : Nat, i + d = l.length → Ev (fun k => laws_eqByteS.l0 k l l (i : Int)) true := by
  induction d with
  | zero =>
    intro i h
    exact Ev.ret fun k => by simp only [laws_eqByteS.l0]; rw [if_neg (by omega)]
  | succ d ih =>
    intro i h
    refine Ev.step (f := fun k => laws_eqByteS.l0 k l l ((i + 1 : Nat) : Int)) (fun k => ?_) (ih (i + 1) (by omega))
    simp only [laws_eqByteS.l0]
    rw [if_pos (by omega), if_pos (by omega), if_pos (by omega), if_pos (by trivial), w64 (by omega) (by omega)]; rfl
theorem eqByteS_self (l : List Int) (hl : l.length ≤ 4611686018427387904) : Ev (fun k => laws_eqByteS.f k l l) true := by
  unfold laws_eqByteS.f
  simp only [if_true]
  exact eqByteS_l0 l hl l.length 0 (by omega)
theorem l1At_eq {l : List Int} (hb : Bytes l) (hl : l.length ≤ 4611686018427387904) {i : Int} (h0 : 0 ≤ i) (h1 : i + 4 ≤ (l.length : Int)) : spec_l1At.f l i = some (at4 l i) := by
  unfold spec_l1At.f
  rw [w64 (x := i + 1) (by omega) (by omega), w64 (x := i + 2) (by omega) (by omega), w64 (x := i + 3) (by omega) (by omega)]
  rw [if_pos (by omega), if_pos (by omega), if_pos (by omega), if_pos (by omega), if_pos (by omega), if_pos (by omega), if_pos (by omega), if_pos (by omega)]
  have b0 := hb.rd i
  have b1 := hb.rd (i + 1)
  have b2 := hb.rd (i + 2)
  have b3 := hb.rd (i + 3)
  rw [w64 (x := rd l i) (by omega) (by omega), w64 (x := rd l (i + 1)) (by omega) (by omega), w64 (x := rd l (i + 2)) (by omega) (by omega), w64 (x := rd l (i + 3)) (by omega) (by omega)]
  rw [w64 (x := rd l i * 16777216) (by omega) (by omega), w64 (x := rd l (i + 1) * 65536) (by omega) (by omega), w64 (x := rd l (i + 2) * 256) (by omega) (by omega)]
  rw [w64 (x := rd l i * 16777216 + rd l (i + 1) * 65536) (by omega) (by omega), w64 (x := rd l i * 16777216 + rd l (i + 1) * 65536 + rd l (i + 2) * 256) (by omega) (by omega), w64 (by omega) (by omega)]
  rfl
theorem wordAt_eq {l : List Int} (hb : Bytes l) (hl : l.length ≤ 4611686018427387904) {i : Int} (h0 : 0 ≤ i) (h1 : i + 4 ≤ (l.length : Int)) : impl_wordAt.f l i = some (at4 l i) := by
  unfold impl_wordAt.f
  rw [w64 (x := i + 1) (by omega) (by omega), w64 (x := i + 2) (by omega) (by omega), w64 (x := i + 3) (by omega) (by omega)]
  rw [if_pos (by omega), if_pos (by omega), if_pos (by omega), if_pos (by omega), if_pos (by omega), if_pos (by omega), if_pos (by omega), if_pos (by omega)]
  have b0 := hb.rd i
  have b1 := hb.rd (i + 1)
  have b2 := hb.rd (i + 2)
  have b3 := hb.rd (i + 3)
  rw [w64 (x := rd l i) (by omega) (by omega), w64 (x := rd l (i + 1)) (by omega) (by omega), w64 (x := rd l (i + 2)) (by omega) (by omega), w64 (x := rd l (i + 3)) (by omega) (by omega)]
  rw [w64 (x := rd l i * 16777216) (by omega) (by omega), w64 (x := rd l (i + 1) * 65536) (by omega) (by omega), w64 (x := rd l (i + 2) * 256) (by omega) (by omega)]
  rw [bor_add (x := rd l i * 16777216) (y := rd l (i + 1) * 65536) 24 (by omega) (by omega) (by omega) (by omega) (by omega) (by omega), bor_add (x := rd l i * 16777216 + rd l (i + 1) * 65536) (y := rd l (i + 2) * 256) 16 (by omega) (by omega) (by omega) (by omega) (by omega) (by omega), bor_add (x := rd l i * 16777216 + rd l (i + 1) * 65536 + rd l (i + 2) * 256) 8 (by omega) (by omega) (by omega) (by omega) (by omega) (by omega)]
  rfl
def wdAt (l : List Int) (i : Int) : Int × Int := if inB i 0 ((l.length : Int) - 4) = true then (0, at4 l i) else (3, 0)
theorem specWordAt_eq {l : List Int} (hb : Bytes l) (hl : l.length ≤ 4611686018427387904) (i : Int) : spec_WordAt.f l i = some (wdAt l i) := by
  unfold spec_WordAt.f wdAt
  rw [w64 (by omega) (by omega), l1In_eq]
  simp only [Option.bind_some]
  by_cases h : inB i 0 ((l.length : Int) - 4) = true
  · have h2 := inB_true.1 h
    rw [if_pos h, if_pos h, l1At_eq hb hl h2.1 (by omega)]; rfl
  · rw [if_neg h, if_neg h]
theorem implWordAt_eq {l : List Int} (hb : Bytes l) (hl : l.length ≤ 4611686018427387904) (i : Int) : impl_WordAt.f l i = some (wdAt l i) := by
  unfold impl_WordAt.f wdAt
  rw [w64 (by omega) (by omega), within_eq]
  simp only [Option.bind_some]
  by_cases h : inB i 0 ((l.length : Int) - 4) = true
  · have h2 := inB_true.1 h
    rw [if_pos h, if_pos h, wordAt_eq hb hl h2.1 (by omega)]; rfl
  · rw [if_neg h, if_neg h]
theorem FnExactWordAt : laws_FnExactWordAt.Pure := by
  intro l0 a1 _ h0 b0 _
  have B0 := Bytes.of_wf b0
  apply Ev.rounds
  unfold laws_FnExactWordAt.f
  split
  · exact Ev.now _
  refine Ev.bind (toByteS_ev l0 (by omega)) ?_
  simp only [specWordAt_eq B0 (show l0.length ≤ 4611686018427387904 by omega), Option.bind_some]
  refine Ev.bind (toByteS_ev l0 (by omega)) ?_
  simp only [implWordAt_eq B0 (show l0.length ≤ 4611686018427387904 by omega), Option.bind_some, eqIntResult_self, if_true]
  refine Ev.bind (toByteS_ev l0 (by omega)) (Ev.bind (eqByteS_self l0 (by omega)) ?_)
  simp only [if_true]
  exact Ev.now _
end FnExactWordAt_
theorem FnExactWordAt : laws_FnExactWordAt.Pure := FnExactWordAt_.FnExactWordAt
end Go.Proofs.Ytejodldgipnhcaa.Pure
