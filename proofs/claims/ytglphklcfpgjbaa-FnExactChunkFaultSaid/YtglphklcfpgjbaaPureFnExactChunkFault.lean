/- The pure statement of FnExactChunkFault: what the printed functions of the program and of the reference compute makes the law answer true, for all arguments (each number of its kind). -/
import Derived.Test.YtglphklcfpgjbaaPFnExactChunkFaultx2
import Derived.Test.YtglphklcfpgjbaaBase
set_option linter.unusedVariables false
set_option linter.unusedSimpArgs false
namespace Go.Proofs.Ytglphklcfpgjbaa.Pure
open Go.RowKit Go.Proofs.Ytglphklcfpgjbaa.PFnExactChunkFault Go.Proofs.YtglphklcfpgjbaaW.PrintWords Go.Proofs.YtglphklcfpgjbaaW.PrintLast Go.Proofs.YtglphklcfpgjbaaW.PrintMore Go.Proofs.Ytglphklcfpgjbaa.Base
namespace FnExactChunkFault_
theorem l1In_eq (a b c : Int) : spec_l1In.f a b c = some (inB a b c) := ge_le
theorem within_eq (a b c : Int) : impl_within.f a b c = some (inB a b c) := ge_le
theorem toByteS_l0 (l : List Int) (hl : l.length ≤ 281474976710656) (d : Nat) : ∀ (i : Nat) (x : List Int), i + d = l.length → x.length = l.length → x.take i = l.take i → Ev (fun k => laws_toByteS.l0 k l x (i : Int)) l := by
  induction d with
  | zero =>
    intro i x h hx ht
    have e : x = l := by
      rw [List.take_of_length_le (by omega), List.take_of_length_le (by omega)] at ht
      exact ht
    subst e
    exact Ev.ret fun k => by simp only [laws_toByteS.l0]; rw [if_neg (by omega)]
  | succ d ih =>
    intro i x h hx ht
    have hi : i < l.length := by omega
    refine Ev.step (f := fun k => laws_toByteS.l0 k l (x.set i l[i]) ((i + 1 : Nat) : Int)) (fun k => ?_) ?_
    · simp only [laws_toByteS.l0]
      rw [if_pos (by omega), if_pos (by omega), if_pos (by omega), rd_nat l i hi, w64 (by omega) (by omega)]
      simp only [Int.toNat_natCast]; rfl
    · refine ih (i + 1) _ (by omega) (by rw [List.length_set]; exact hx) ?_
      rw [List.take_succ_eq_append_getElem (by rw [List.length_set]; omega), List.take_succ_eq_append_getElem hi, List.getElem_set_self, List.take_set_of_le (by omega), ht]
theorem toByteS_ev (l : List Int) (hl : l.length ≤ 281474976710656) : Ev (fun k => laws_toByteS.f k l) l := by
  unfold laws_toByteS.f
  simp only [if_pos (show (0 : Int) ≤ (l.length : Int) by omega), if_pos (show ((l.length : Int) : Int).toNat ≤ 281474976710656 by omega)]
  exact toByteS_l0 l hl l.length 0 _ (by omega) (by simp) (by simp)
theorem eqByteS_l0 (l : List Int) (hl : l.length ≤ 4611686018427387904) (d : Nat) : ∀ i : Nat, i + d = l.length → Ev (fun k => laws_eqByteS.l0 k l l (i : Int)) true := by
  induction d with
  | zero =>
    intro i h
    exact Ev.ret fun k => by simp only [laws_eqByteS.l0]; rw [if_neg (by omega)]
  | succ d ih =>
    intro i h
    refine Ev.step (f := fun k => laws_eqByteS.l0 k l l ((i + 1 : Nat) : Int)) (fun k => ?_) (ih (i + 1) (by omega))
    simp only [laws_eqByteS.l0]
    rw [if_pos (by omega), if_pos (by omega), if_pos (by omega), if_pos (by trivial), w64 (by omega) (by omega)]; rfl
theorem eqByteS_self (l : List Int) (hl : l.length ≤ 4611686018427387904) : Ev (fun k => laws_eqByteS.f k l l) true := by
  unfold laws_eqByteS.f
  simp only [if_true]
  exact eqByteS_l0 l hl l.length 0 (by omega)
theorem szByteS_big {l : List Int} (hl : l.length ≤ 9223372036854775807) {a : Int} (h0 : 0 ≤ a) (h1 : a ≤ 1048576) (h : a < (l.length : Int)) : laws_szByteS.f l a = some (-1) := by
  unfold laws_szByteS.f
  rw [w64 (by omega) (by omega), if_pos (by omega)]
theorem szByteS_ok {l : List Int} {a : Int} (h1 : a ≤ 1048576) (h : (l.length : Int) ≤ a) : laws_szByteS.f l a = some (a - (l.length : Int)) := by
  unfold laws_szByteS.f
  rw [w64 (by omega) (by omega), if_neg (by omega)]
theorem szChunk_big {a b : Int} {l : List Int} (hl : l.length ≤ 9223372036854775807) {n : Int} (h0 : 0 ≤ n) (h1 : n ≤ 1048576) (h : n < (l.length : Int)) : laws_szChunk.f a b l n = some (-1) := by
  unfold laws_szChunk.f
  rw [szByteS_big hl h0 h1 h]; rfl
theorem szChunk_ok {a b : Int} {l : List Int} {n : Int} (h1 : n ≤ 1048576) (h : (l.length : Int) ≤ n) : laws_szChunk.f a b l n = some (n - (l.length : Int)) := by
  unfold laws_szChunk.f
  rw [szByteS_ok h1 h]; simp only [Option.bind_some]
  rw [if_neg (by omega)]
theorem toChunk_ev (a b : Int) (l : List Int) (hl : l.length ≤ 281474976710656) : Ev (fun k => laws_toChunk.f k a b l) (a, b, l) := by
  unfold laws_toChunk.f
  exact Ev.bind (toByteS_ev l hl) (Ev.now _)
theorem eqChunk_self (a b : Int) (l : List Int) (hl : l.length ≤ 4611686018427387904) : Ev (fun k => laws_eqChunk.f k a b l a b l) true := by
  unfold laws_eqChunk.f
  exact Ev.pos rfl (Ev.pos rfl (Ev.bind (eqByteS_self l hl) (Ev.pos rfl (Ev.now _))))
theorem specChunkFault_ev (a b : Int) (l : List Int) : Ev (fun k => spec_ChunkFault.f k a b l) (chunkF a b l) := by
  have hj : ∀ q : Bool, Ev (fun k => spec_ChunkFault.j0 k (!q) a b l) (if q = true then (if l.length > 160 then 2 else 0) else 3) := by
    intro q
    refine Ev.ret fun k => ?_
    simp only [spec_ChunkFault.j0]
    cases q
    · rfl
    · simp only [Bool.not_true, Bool.false_eq_true, if_false, if_true]
      by_cases h : l.length > 160
      · rw [if_pos (by omega), if_pos h]
      · rw [if_neg (by omega), if_neg h]
  unfold spec_ChunkFault.f chunkF
  simp only [l1In_eq, Option.bind_some]
  cases inB a 0 255
  · simp only [Bool.false_and, Bool.false_eq_true, if_false]; exact hj false
  · simp only [Bool.true_and, if_true]; exact hj _
theorem implChunkFault_ev (a b : Int) (l : List Int) : Ev (fun k => impl_ChunkFault.f k a b l) (chunkF a b l) := by
  have hj : ∀ q : Bool, Ev (fun k => impl_ChunkFault.j0 k (!q) a b l) (if q = true then (if l.length > 160 then 2 else 0) else 3) := by
    intro q
    refine Ev.ret fun k => ?_
    simp only [impl_ChunkFault.j0]
    cases q
    · rfl
    · simp only [Bool.not_true, Bool.false_eq_true, if_false, if_true]
      by_cases h : l.length > 160
      · rw [if_pos (by omega), if_pos h]
      · rw [if_neg (by omega), if_neg h]
  unfold impl_ChunkFault.f chunkF
  simp only [within_eq, Option.bind_some]
  cases inB a 0 255
  · simp only [Bool.false_and, Bool.false_eq_true, if_false]; exact hj false
  · simp only [Bool.true_and, if_true]; exact hj _
theorem FnExactChunkFault : laws_FnExactChunkFault.Pure := by
  intro a b l _ _ hl
  apply Ev.rounds
  unfold laws_FnExactChunkFault.f
  by_cases hbig : (1048576 : Int) < (l.length : Int)
  · exact Ev.bind (Ev.all fun _ => szChunk_big hl.1 (by omega) (by omega) hbig) (Ev.pos (by omega) (Ev.now _))
  have g : l.length ≤ 1048576 := by omega
  refine Ev.bind (Ev.all fun _ => szChunk_ok (by omega) (by omega)) (Ev.neg (by omega) (Ev.bind (toChunk_ev a b l (by omega)) (Ev.bind (specChunkFault_ev a b l) (Ev.bind (toChunk_ev a b l (by omega)) (Ev.bind (implChunkFault_ev a b l) (Ev.pos rfl ?_))))))
  exact Ev.bind (toChunk_ev a b l (by omega)) (Ev.bind (eqChunk_self a b l (by omega)) (Ev.pos rfl (Ev.now _)))
end FnExactChunkFault_
theorem FnExactChunkFault : laws_FnExactChunkFault.Pure := FnExactChunkFault_.FnExactChunkFault
end Go.Proofs.Ytglphklcfpgjbaa.Pure
