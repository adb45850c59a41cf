/- The pure statement of FnExactAddWords: what the printed functions of the program and of the reference compute makes the law answer true, for all arguments (each number of its kind). -/
import Derived.Test.YtejodldgipnhcaaPFnExactAddWordsx1
import Derived.Test.YtejodldgipnhcaaBase
set_option linter.unusedVariables false
set_option linter.unusedSimpArgs false
namespace Go.Proofs.Ytejodldgipnhcaa.Pure
open Go.RowKit Go.Proofs.Ytejodldgipnhcaa.PFnExactAddWords Go.Proofs.YtejodldgipnhcaaW.PrintWords Go.Proofs.YtejodldgipnhcaaW.PrintLast Go.Proofs.YtejodldgipnhcaaW.PrintMore Go.Proofs.Ytejodldgipnhcaa.Base
namespace FnExactAddWords_
theorem l1In_eq (a b c : Int) : spec_l1In.f a b c = some (inB a b c) := ge_le
theorem within_eq (a b c : Int) : impl_within.f a b c = some (inB a b c) := ge_le
theorem l1Word32_eq (a : Int) : spec_l1Word32.f a = some (isWd a) := by
  unfold spec_l1Word32.f; rw [l1In_eq]; rfl
theorem isWord_eq (a : Int) : impl_isWord.f a = some (isWd a) := by
  unfold impl_isWord.f; rw [within_eq]; rfl
theorem areWords_l0 (l : List Int) (hl : l.length ≤ 4611686018427387904) (d : Nat) : ∀ i : Nat, i + d = l.length → Ev (fun k => impl_areWords.l0 k l (l.length : Int) (i : Int)) ((l.drop i).all isWd) := by
  induction d with
  | zero =>
    intro i h
    rw [List.drop_of_length_le (by omega)]
    exact Ev.ret fun k => by simp only [impl_areWords.l0]; rw [if_neg (by omega)]; rfl
  | succ d ih =>
    intro i h
    have hi : i < l.length := by omega
    rw [List.drop_eq_getElem_cons hi, List.all_cons]
    refine Ev.step (f := fun k => if isWd l[i] = true then impl_areWords.l0 k l (l.length : Int) ((i + 1 : Nat) : Int) else some false) (fun k => ?_) ?_
    · simp only [impl_areWords.l0]
      rw [if_pos (by omega), if_pos (by omega), if_pos (by omega), rd_nat l i hi, isWord_eq, w64 (by omega) (by omega)]; rfl
    · cases e : isWd l[i] with
      | true => simp only [if_true, Bool.true_and]; exact ih (i + 1) (by omega)
      | false => exact Ev.now false
theorem areWords_ev (l : List Int) (hl : l.length ≤ 4611686018427387904) : Ev (fun k => impl_areWords.f k l) (l.all isWd) := areWords_l0 l hl l.length 0 (by omega)
theorem areWords_two (a b : Int) : Ev (fun k => impl_areWords.f k ([a, b] : List Int)) (isWd a && isWd b) := by
  have h := areWords_ev [a, b] (by simp)
  simpa only [List.all_cons, List.all_nil, Bool.and_true] using h
theorem eqIntResult_self (a b : Int) : laws_eqIntResult.f a b a b = some true := by
  unfold laws_eqIntResult.f; rw [if_pos rfl, if_pos rfl]
theorem l1Add_eq {a b : Int} (ha : Wd a) (hb : Wd b) : spec_l1Add.f a b = some ((a + b) % 4294967296) := by
  obtain ⟨_, _⟩ := ha
  obtain ⟨_, _⟩ := hb
  unfold spec_l1Add.f
  rw [w64 (by omega) (by omega), Int.tmod_eq_emod_of_nonneg (by omega)]
def addW (a b : Int) : Int × Int := if (isWd a && isWd b) = true then (0, (a + b) % 4294967296) else (3, 0)
theorem specAddWords_eq (a b : Int) : spec_AddWords.f a b = some (addW a b) := by
  unfold spec_AddWords.f addW
  simp only [l1Word32_eq, Option.bind_some]
  cases ha : isWd a with
  | false => rfl
  | true =>
    cases hb : isWd b with
    | false => rfl
    | true => simp only [if_true, l1Add_eq (isWd_true.1 ha) (isWd_true.1 hb), Option.bind_some, Bool.and_self]
def sumW (s : Int) (l : List Int) : Int := l.foldl (fun s x => (s + x) % 4294967296) s
theorem addWords_l0 (l : List Int) (hl : l.length ≤ 4611686018427387904) (hw : ∀ x ∈ l, Wd x) (d : Nat) : ∀ (i : Nat) (s : Int), i + d = l.length → Wd s → Ev (fun k => impl_addWords.l0 k s l (l.length : Int) (i : Int)) (sumW s (l.drop i)) := by
  induction d with
  | zero =>
    intro i s h hs
    rw [List.drop_of_length_le (by omega)]
    exact Ev.ret fun k => by simp only [impl_addWords.l0]; rw [if_neg (by omega)]; rfl
  | succ d ih =>
    intro i s h hs
    have hi : i < l.length := by omega
    have hx := hw _ (List.getElem_mem hi)
    rw [List.drop_eq_getElem_cons hi]
    refine Ev.step (f := fun k => impl_addWords.l0 k ((s + l[i]) % 4294967296) l (l.length : Int) ((i + 1 : Nat) : Int)) (fun k => ?_) (ih (i + 1) _ (by omega) (Wd.mod _))
    obtain ⟨_, _⟩ := hx
    obtain ⟨_, _⟩ := hs
    simp only [impl_addWords.l0]
    rw [if_pos (by omega), if_pos (by omega), if_pos (by omega), rd_nat l i hi, w64 (x := s + l[i]) (by omega) (by omega), band_mask, w64 (by omega) (by omega)]; rfl
theorem addWords_ev (l : List Int) (hl : l.length ≤ 4611686018427387904) (hw : ∀ x ∈ l, Wd x) : Ev (fun k => impl_addWords.f k l) (sumW 0 l) := addWords_l0 l hl hw l.length 0 0 (by omega) ⟨by decide, by decide⟩
theorem addWords_two {a b : Int} (ha : Wd a) (hb : Wd b) : Ev (fun k => impl_addWords.f k ([a, b] : List Int)) ((a + b) % 4294967296) := by
  have h := addWords_ev [a, b] (by simp) (by intro x hx; simp at hx; rcases hx with rfl | rfl <;> assumption)
  have e : sumW 0 [a, b] = (a + b) % 4294967296 := by
    simp only [sumW, List.foldl_cons, List.foldl_nil]; omega
  rwa [e] at h
theorem implAddWords_ev (a b : Int) : Ev (fun k => impl_AddWords.f k a b) (addW a b) := by
  unfold impl_AddWords.f addW
  refine Ev.bind (areWords_two a b) ?_
  cases ha : isWd a with
  | false => exact Ev.now _
  | true =>
    cases hb : isWd b with
    | false => exact Ev.now _
    | true =>
      simp only [Bool.and_self, if_true]
      exact Ev.bind (addWords_two (isWd_true.1 ha) (isWd_true.1 hb)) (Ev.now _)
theorem FnExactAddWords : laws_FnExactAddWords.Pure := by
  intro a0 a1 _ _
  apply Ev.rounds
  unfold laws_FnExactAddWords.f
  simp only [specAddWords_eq, Option.bind_some]
  refine Ev.bind (implAddWords_ev a0 a1) ?_
  simp only [eqIntResult_self, Option.bind_some, if_true]
  exact Ev.now _
end FnExactAddWords_
theorem FnExactAddWords : laws_FnExactAddWords.Pure := FnExactAddWords_.FnExactAddWords
end Go.Proofs.Ytejodldgipnhcaa.Pure
