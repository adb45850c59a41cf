/- The pure statement of FnSerials: what the printed functions of the program and of the reference compute makes the law answer true, for all arguments (each number of its kind). -/
import Derived.Test.YtacfebnfdmbkaaaPFnSerialsx4
import Derived.Test.YtacfebnfdmbkaaaBase
import Derived.Test.YtacfebnfdmbkaaaSz
set_option linter.unusedVariables false
set_option linter.unusedSimpArgs false
namespace Go.Proofs.Ytacfebnfdmbkaaa.Pure
open Go.RowKit Go.Proofs.Ytacfebnfdmbkaaa.PFnSerials Go.Proofs.YtacfebnfdmbkaaaW.PrintWords Go.Proofs.YtacfebnfdmbkaaaW.PrintLast Go.Proofs.YtacfebnfdmbkaaaW.PrintMore Go.Proofs.Ytacfebnfdmbkaaa.Base
namespace FnSerials_
theorem l1In_eq (a b c : Int) : spec_l1In.f a b c = some (inB a b c) := ge_le
theorem within_eq (a b c : Int) : impl_within.f a b c = some (inB a b c) := ge_le
theorem l1Word32_eq (a : Int) : spec_l1Word32.f a = some (isWd a) := by
  unfold spec_l1Word32.f; rw [l1In_eq]; rfl
theorem isWord_eq (a : Int) : impl_isWord.f a = some (isWd a) := by
  unfold impl_isWord.f; rw [within_eq]; rfl
theorem areWords_l0 (l : List Int) (hl : l.length ≤ 4611686018427387904) (d : Nat) : ∀ i : Nat, i + d = l.length → Ev (fun k => impl_areWords.l0 k l (l.length : Int) (i : Int)) ((l.drop i).all isWd) := by
  induction d with
  | zero =>
    intro i h
    rw [List.drop_of_length_le (by omega)]
    exact Ev.ret fun k => by simp only [impl_areWords.l0]; rw [if_neg (by omega)]; rfl
  | succ d ih =>
    intro i h
    have hi : i < l.length := by omega
    rw [List.drop_eq_getElem_cons hi, List.all_cons]
    refine Ev.step (f := fun k => if isWd l[i] = true then impl_areWords.l0 k l (l.length : Int) ((i + 1 : Nat) : Int) else some false) (fun k => ?_) ?_
    · simp only [impl_areWords.l0]
      rw [if_pos (by omega), if_pos (by omega), if_pos (by omega), rd_nat l i hi, isWord_eq, w64 (by omega) (by omega)]; rfl
    · cases e : isWd l[i] with
      | true => simp only [if_true, Bool.true_and]; exact ih (i + 1) (by omega)
      | false => exact Ev.now false
theorem areWords_ev (l : List Int) (hl : l.length ≤ 4611686018427387904) : Ev (fun k => impl_areWords.f k l) (l.all isWd) := areWords_l0 l hl l.length 0 (by omega)
theorem areWords_two (a b : Int) : Ev (fun k => impl_areWords.f k ([a, b] : List Int)) (isWd a && isWd b) := by
  have h := areWords_ev [a, b] (by simp)
  simpa only [List.all_cons, List.all_nil, Bool.and_true] using h
theorem l1Gap_eq {a b : Int} (ha : Wd a) (hb : Wd b) : spec_l1Gap.f a b = some ((b - a) % 4294967296) := by
  obtain ⟨_, _⟩ := ha
  obtain ⟨_, _⟩ := hb
  unfold spec_l1Gap.f
  rw [w64 (x := b - a) (by omega) (by omega), w64 (by omega) (by omega), Int.tmod_eq_emod_of_nonneg (by omega)]
  congr 1; omega
theorem serialGap_eq {a b : Int} (ha : Wd a) (hb : Wd b) : impl_serialGap.f a b = some ((b - a) % 4294967296) := by
  obtain ⟨_, _⟩ := ha
  obtain ⟨_, _⟩ := hb
  unfold impl_serialGap.f
  rw [w64 (x := b - a) (by omega) (by omega), band_mask]
theorem l1Less_eq {a b : Int} (ha : Wd a) (hb : Wd b) : spec_l1Less.f a b = some (inB ((b - a) % 4294967296) 1 2147483647) := by
  unfold spec_l1Less.f; rw [l1Gap_eq ha hb]; simp only [Option.bind_some, l1In_eq]
theorem serialLess_eq {a b : Int} (ha : Wd a) (hb : Wd b) : impl_serialLess.f a b = some (inB ((b - a) % 4294967296) 1 2147483647) := by
  unfold impl_serialLess.f; rw [serialGap_eq ha hb]; simp only [Option.bind_some, within_eq]
theorem specSerialLess_eq (a b : Int) : spec_SerialLess.f a b = some (serLess a b) := by
  unfold spec_SerialLess.f serLess
  simp only [l1Word32_eq, Option.bind_some]
  cases ha : isWd a with
  | false => rfl
  | true =>
    cases hb : isWd b with
    | false => rfl
    | true => simp only [if_true, l1Less_eq (isWd_true.1 ha) (isWd_true.1 hb), Option.bind_some, Bool.true_and]
theorem implSerialLess_ev (a b : Int) : Ev (fun k => impl_SerialLess.f k a b) (serLess a b) := by
  unfold impl_SerialLess.f serLess
  refine Ev.bind (areWords_two a b) ?_
  cases ha : isWd a with
  | false => exact Ev.now _
  | true =>
    cases hb : isWd b with
    | false => exact Ev.now _
    | true =>
      simp only [Bool.and_self, if_true, serialLess_eq (isWd_true.1 ha) (isWd_true.1 hb), Option.bind_some, Bool.true_and]
      exact Ev.now _
theorem specSerialGap_eq (a b : Int) : spec_SerialGap.f a b = some (serGap a b) := by
  unfold spec_SerialGap.f serGap
  simp only [l1Word32_eq, Option.bind_some]
  cases ha : isWd a with
  | false => rfl
  | true =>
    cases hb : isWd b with
    | false => rfl
    | true => simp only [if_true, l1Gap_eq (isWd_true.1 ha) (isWd_true.1 hb), Option.bind_some, Bool.and_self]
theorem implSerialGap_ev (a b : Int) : Ev (fun k => impl_SerialGap.f k a b) (serGap a b) := by
  unfold impl_SerialGap.f serGap
  refine Ev.bind (areWords_two a b) ?_
  cases ha : isWd a with
  | false => exact Ev.now _
  | true =>
    cases hb : isWd b with
    | false => exact Ev.now _
    | true =>
      simp only [Bool.and_self, if_true, serialGap_eq (isWd_true.1 ha) (isWd_true.1 hb), Option.bind_some]
      exact Ev.now _
theorem l1Add_eq {a b : Int} (ha : Wd a) (hb : Wd b) : spec_l1Add.f a b = some ((a + b) % 4294967296) := by
  obtain ⟨_, _⟩ := ha
  obtain ⟨_, _⟩ := hb
  unfold spec_l1Add.f
  rw [w64 (by omega) (by omega), Int.tmod_eq_emod_of_nonneg (by omega)]
theorem addWords_l0 (l : List Int) (hl : l.length ≤ 4611686018427387904) (hw : ∀ x ∈ l, Wd x) (d : Nat) : ∀ (i : Nat) (s : Int), i + d = l.length → Wd s → Ev (fun k => impl_addWords.l0 k s l (l.length : Int) (i : Int)) (sumW s (l.drop i)) := by
  induction d with
  | zero =>
    intro i s h hs
    rw [List.drop_of_length_le (by omega)]
    exact Ev.ret fun k => by simp only [impl_addWords.l0]; rw [if_neg (by omega)]; rfl
  | succ d ih =>
    intro i s h hs
    have hi : i < l.length := by omega
    have hx := hw _ (List.getElem_mem hi)
    rw [List.drop_eq_getElem_cons hi]
    refine Ev.step (f := fun k => impl_addWords.l0 k ((s + l[i]) % 4294967296) l (l.length : Int) ((i + 1 : Nat) : Int)) (fun k => ?_) (ih (i + 1) _ (by omega) (Wd.mod _))
    obtain ⟨_, _⟩ := hx
    obtain ⟨_, _⟩ := hs
    simp only [impl_addWords.l0]
    rw [if_pos (by omega), if_pos (by omega), if_pos (by omega), rd_nat l i hi, w64 (x := s + l[i]) (by omega) (by omega), band_mask, w64 (by omega) (by omega)]; rfl
theorem addWords_ev (l : List Int) (hl : l.length ≤ 4611686018427387904) (hw : ∀ x ∈ l, Wd x) : Ev (fun k => impl_addWords.f k l) (sumW 0 l) := addWords_l0 l hl hw l.length 0 0 (by omega) ⟨by decide, by decide⟩
theorem addWords_two {a b : Int} (ha : Wd a) (hb : Wd b) : Ev (fun k => impl_addWords.f k ([a, b] : List Int)) ((a + b) % 4294967296) := by
  have h := addWords_ev [a, b] (by simp) (by intro x hx; simp at hx; rcases hx with rfl | rfl <;> assumption)
  have e : sumW 0 [a, b] = (a + b) % 4294967296 := by
    simp only [sumW, List.foldl_cons, List.foldl_nil]; omega
  rwa [e] at h
theorem implAddWords_ev (a b : Int) : Ev (fun k => impl_AddWords.f k a b) (addW a b) := by
  unfold impl_AddWords.f addW
  refine Ev.bind (areWords_two a b) ?_
  cases ha : isWd a with
  | false => exact Ev.now _
  | true =>
    cases hb : isWd b with
    | false => exact Ev.now _
    | true =>
      simp only [Bool.and_self, if_true]
      exact Ev.bind (addWords_two (isWd_true.1 ha) (isWd_true.1 hb)) (Ev.now _)
theorem lwBig_eq (l : List Int) : laws_lwBig.f l = some (decide ((l.length : Int) > 1048576)) := rfl
theorem l1Next_ok {c : List Int} (hb : Bytes c) (hl : c.length ≤ 1048576) {s : Int} (h0 : 0 ≤ s) (h1 : s ≤ 1073741824) {n : Int} (hn : 1 ≤ n) : ∃ v, spec_l1Next.f c s n = some (v, s + 1) ∧ 0 ≤ v ∧ v < n := by
  unfold spec_l1Next.f
  have e1 : wrap64 (s + 1) = s + 1 := w64 (by omega) (by omega)
  have e2 : wrap64 (s + 1 - 1) = s := by rw [w64 (by omega) (by omega)]; omega
  have e3 : wrap64 (s + 2) = s + 2 := w64 (by omega) (by omega)
  simp only [e1, e2, e3]
  rw [if_neg (show ¬ n < 1 by omega)]
  have fin : ∀ X : Int, 0 ≤ X → ∃ v, (if n = 0 then none else some (Int.tmod X n, s + 1)) = some (v, s + 1) ∧ 0 ≤ v ∧ v < n := fun X hX => ⟨Int.tmod X n, by rw [if_neg (by omega)], Int.tmod_nonneg _ hX, Int.tmod_lt_of_pos _ (by omega)⟩
  by_cases hz : (c.length : Int) = 0
  · rw [if_pos hz]
    exact fin _ (by rw [w64 (by omega) (by omega)]; omega)
  · rw [if_neg hz]
    have ix : ∀ t : Int, 0 ≤ t → 0 ≤ Int.tmod t (c.length : Int) ∧ Int.tmod t (c.length : Int) < (c.length : Int) := fun t ht => ⟨Int.tmod_nonneg _ ht, Int.tmod_lt_of_pos _ (by omega)⟩
    rw [if_pos (ix s h0).1, if_pos (ix s h0).2, if_pos (ix (s + 1) (by omega)).1, if_pos (ix (s + 1) (by omega)).2, if_pos (ix (s + 2) (by omega)).1, if_pos (ix (s + 2) (by omega)).2]
    have q0 : 0 ≤ Int.tdiv s (c.length : Int) := Int.tdiv_nonneg h0 (by omega)
    have q1 : Int.tdiv s (c.length : Int) ≤ s := by
      rw [Int.tdiv_eq_ediv_of_nonneg h0]; exact Int.ediv_le_self _ h0
    have b0 := hb.rd (Int.tmod s (c.length : Int))
    have b1 := hb.rd (Int.tmod (s + 1) (c.length : Int))
    have b2 := hb.rd (Int.tmod (s + 2) (c.length : Int))
    generalize rd c (Int.tmod s (c.length : Int)) = x0 at *
    generalize rd c (Int.tmod (s + 1) (c.length : Int)) = x1 at *
    generalize rd c (Int.tmod (s + 2) (c.length : Int)) = x2 at *
    generalize Int.tdiv s (c.length : Int) = q at *
    have v0 : wrap64 (wrap64 x0 + wrap64 (wrap64 q * 37)) = x0 + q * 37 := by
      rw [w64 (x := x0) (by omega) (by omega), w64 (x := q) (by omega) (by omega), w64 (x := q * 37) (by omega) (by omega), w64 (by omega) (by omega)]
    have v1 : wrap64 (wrap64 (wrap64 ((x0 + q * 37) * 251) + wrap64 (wrap64 x1 * 13)) + s) = (x0 + q * 37) * 251 + x1 * 13 + s := by
      rw [w64 (x := x1) (by omega) (by omega), w64 (x := x1 * 13) (by omega) (by omega), w64 (x := (x0 + q * 37) * 251) (by omega) (by omega), w64 (x := (x0 + q * 37) * 251 + x1 * 13) (by omega) (by omega), w64 (by omega) (by omega)]
    have v2 : ∀ y : Int, 0 ≤ y → y ≤ 1152921504606846 → 0 ≤ wrap64 (wrap64 (y * 257) + wrap64 x2) := by
      intro y hy hy1
      rw [w64 (x := x2) (by omega) (by omega), w64 (x := y * 257) (by omega) (by omega), w64 (by omega) (by omega)]; omega
    simp only [v0, v1]
    by_cases ha : n > 200
    · rw [if_pos ha]
      by_cases hc : n > 60000
      · rw [if_pos hc]; exact fin _ (v2 _ (by omega) (by omega))
      · rw [if_neg hc]; exact fin _ (by omega)
    · rw [if_neg ha, if_neg (show ¬ n > 60000 by omega)]; exact fin _ (by omega)
theorem l1Pick_ok {c : List Int} (hb : Bytes c) (hl : c.length ≤ 1048576) {s : Int} (h0 : 0 ≤ s) (h1 : s ≤ 1073741824) (l : List Int) (hn : 1 ≤ l.length) : ∃ v, spec_l1Pick.f c s l = some (v, s + 1) ∧ v ∈ l := by
  obtain ⟨v, hv, v0, v1⟩ := l1Next_ok hb hl h0 h1 (n := (l.length : Int)) (by omega)
  refine ⟨rd l v, ?_, rd_mem l v v0 v1⟩
  unfold spec_l1Pick.f
  rw [hv]; simp only [Option.bind_some]
  rw [if_pos v0, if_pos v1]
theorem l1Chance_ok {c : List Int} (hb : Bytes c) (hl : c.length ≤ 1048576) {s : Int} (h0 : 0 ≤ s) (h1 : s ≤ 1073741824) {n : Int} (hn : 1 ≤ n) : ∃ b, spec_l1Chance.f c s n = some (b, s + 1) := by
  obtain ⟨v, hv, v0, v1⟩ := l1Next_ok hb hl h0 h1 hn
  exact ⟨_, by unfold spec_l1Chance.f; rw [hv]; rfl⟩
theorem l1Source_eq (c : List Int) : spec_l1Source.f c = some (c, 0) := rfl
theorem l1Draw_ok {c : List Int} (hb : Bytes c) (hl : c.length ≤ 1048576) {s : Int} (h0 : 0 ≤ s) (h1 : s ≤ 1000000000) : ∃ v, spec_l1Draw.f c s = some (v, s + 4) ∧ Wd v := by
  unfold spec_l1Draw.f
  obtain ⟨a, ha, a0, a1⟩ := l1Next_ok hb hl h0 (by omega) (n := 300) (by omega)
  obtain ⟨b, hb1, b0, b1⟩ := l1Next_ok hb hl (s := s + 1) (by omega) (by omega) (n := 60000) (by omega)
  obtain ⟨d, hd, d0, d1⟩ := l1Next_ok hb hl (s := s + 1 + 1) (by omega) (by omega) (n := 60000) (by omega)
  rw [ha]; simp only [Option.bind_some]; rw [hb1]; simp only [Option.bind_some]; rw [hd]; simp only [Option.bind_some]
  obtain ⟨v, hv, hm⟩ := l1Pick_ok hb hl (s := s + 1 + 1 + 1) (by omega) (by omega) [0, 1, 2, 4294967295, 4294967294, 2147483647, 2147483648, a, Int.tmod (wrap64 (b * 70001)) 4294967296, wrap64 (d * 65537)] (by simp)
  rw [hv]
  refine ⟨v, by simp only [Option.bind_some]; rw [show s + 1 + 1 + 1 + 1 = s + 4 by omega], ?_⟩
  have w1 : wrap64 (b * 70001) = b * 70001 := w64 (by omega) (by omega)
  have w2 : wrap64 (d * 65537) = d * 65537 := w64 (by omega) (by omega)
  rw [w1, w2, Int.tmod_eq_emod_of_nonneg (by omega)] at hm
  simp only [List.mem_cons, List.not_mem_nil, or_false] at hm
  unfold Wd
  rcases hm with rfl | rfl | rfl | rfl | rfl | rfl | rfl | rfl | rfl | rfl <;> omega
theorem l1Bent_ok {c : List Int} (hb : Bytes c) (hl : c.length ≤ 1048576) {s : Int} (h0 : 0 ≤ s) (h1 : s ≤ 999999000) : ∃ v, spec_l1Bent.f c s = some (v, s + 29) ∧ -1 ≤ v ∧ v ≤ 4294967296 := by
  unfold spec_l1Bent.f
  obtain ⟨a, ha, a0, a1⟩ := l1Draw_ok hb hl h0 (by omega)
  obtain ⟨b, hb1, b0, b1⟩ := l1Draw_ok hb hl (s := s + 4) (by omega) (by omega)
  obtain ⟨d, hd, d0, d1⟩ := l1Draw_ok hb hl (s := s + 4 + 4) (by omega) (by omega)
  obtain ⟨e, he, e0, e1⟩ := l1Draw_ok hb hl (s := s + 4 + 4 + 4) (by omega) (by omega)
  obtain ⟨f, hf, f0, f1⟩ := l1Draw_ok hb hl (s := s + 4 + 4 + 4 + 4) (by omega) (by omega)
  obtain ⟨g, hg, g0, g1⟩ := l1Draw_ok hb hl (s := s + 4 + 4 + 4 + 4 + 4) (by omega) (by omega)
  obtain ⟨i, hi, i0, i1⟩ := l1Draw_ok hb hl (s := s + 4 + 4 + 4 + 4 + 4 + 4) (by omega) (by omega)
  rw [ha]; simp only [Option.bind_some]; rw [hb1]; simp only [Option.bind_some]; rw [hd]; simp only [Option.bind_some]; rw [he]; simp only [Option.bind_some]; rw [hf]; simp only [Option.bind_some]; rw [hg]; simp only [Option.bind_some]; rw [hi]; simp only [Option.bind_some]
  obtain ⟨v, hv, hm⟩ := l1Pick_ok hb hl (s := s + 4 + 4 + 4 + 4 + 4 + 4 + 4) (by omega) (by omega) [a, b, d, e, f, g, i, -1, 4294967296] (by simp)
  rw [hv]
  refine ⟨v, by simp only [Option.bind_some]; rw [show s + 4 + 4 + 4 + 4 + 4 + 4 + 4 + 1 = s + 29 by omega], ?_⟩
  simp only [List.mem_cons, List.not_mem_nil, or_false] at hm
  rcases hm with rfl | rfl | rfl | rfl | rfl | rfl | rfl | rfl | rfl <;> omega
theorem DrawSerialGap_ok {c : List Int} (hb : Bytes c) (hl : c.length ≤ 1048576) : ∃ a b, Ev (fun k => spec_DrawSerialGap.f k c) (a, b) := by
  unfold spec_DrawSerialGap.f
  rw [l1Source_eq]; simp only [Option.bind_some]
  obtain ⟨a, ha, a0, a1⟩ := l1Bent_ok hb hl (s := 0) (by omega) (by omega)
  obtain ⟨q, hq⟩ := l1Chance_ok hb hl (s := 0 + 29) (by omega) (by omega) (n := 3) (by omega)
  rw [ha]; simp only [Option.bind_some]; rw [hq]; simp only [Option.bind_some, l1Word32_eq]
  have j1 : ∀ s : Int, 0 ≤ s → s ≤ 1000 → ∃ x y, Ev (fun k => spec_DrawSerialGap.j0 k a false c s) (x, y) := by
    intro s s0 s1
    obtain ⟨b, hb1, b0, b1⟩ := l1Bent_ok hb hl (s := s) (by omega) (by omega)
    exact ⟨a, b, Ev.ret fun k => by simp only [spec_DrawSerialGap.j0]; rw [if_neg (by decide), hb1]; rfl⟩
  cases q with
  | false => simp only [Bool.false_eq_true, if_false]; exact j1 _ (by omega) (by omega)
  | true =>
    simp only [if_true]
    cases hw : isWd a with
    | false => exact j1 _ (by omega) (by omega)
    | true =>
      obtain ⟨b, hb1, bm⟩ := l1Pick_ok hb hl (s := 0 + 29 + 1) (by omega) (by omega) [0, 1, 2147483647, 2147483648, 4294967295] (by simp)
      have bw : Wd b := by
        simp only [List.mem_cons, List.not_mem_nil, or_false] at bm
        unfold Wd
        rcases bm with rfl | rfl | rfl | rfl | rfl <;> omega
      exact ⟨a, (a + b) % 4294967296, Ev.ret fun k => by simp only [spec_DrawSerialGap.j0, if_true]; rw [hb1]; simp only [Option.bind_some]; rw [l1Add_eq (isWd_true.1 hw) bw]; rfl⟩
theorem FnSerials : laws_FnSerials.Pure := by
  intro c _ hc1 hc2
  have hb := Bytes.of_wf hc2
  apply Ev.rounds
  unfold laws_FnSerials.f
  simp only [lwBig_eq, Option.bind_some]
  by_cases hbig : (c.length : Int) > 1048576
  · simp only [decide_eq_true hbig, if_true]; exact Ev.now _
  simp only [decide_eq_false hbig, Bool.false_eq_true, if_false]
  obtain ⟨a, b, hd⟩ := DrawSerialGap_ok hb (by omega)
  refine Ev.bind hd (Ev.bind (implSerialGap_ev a b) ?_)
  simp only [specSerialGap_eq, Option.bind_some, beq_self_eq_true, Bool.not_true, Bool.or_self, Bool.false_eq_true, if_false]
  refine Ev.bind (implSerialLess_ev a b) ?_
  simp only [specSerialLess_eq, Option.bind_some, bne_self_eq_false]
  have hj1 : ∀ (ha : Wd a) (hb : Wd b), Ev (fun k => laws_FnSerials.j1 k a b false 0 ((b - a) % 4294967296) 0 ((a - b) % 4294967296)) true := by
    intro ha hb
    obtain ⟨a0, a1⟩ := id ha
    obtain ⟨b0, b1⟩ := id hb
    refine Ev.step (fun k => by simp only [laws_FnSerials.j1]; rfl) ?_
    refine Ev.neg (by decide) (Ev.pos ?_ ?_)
    · rw [w64 (by omega) (by omega), Int.tmod_eq_emod_of_nonneg (by omega)]; omega
    refine Ev.bind (implAddWords_ev _ _) (Ev.pos ?_ ?_)
    · have w1 : isWd ((b - a) % 4294967296) = true := isWd_true.2 (Wd.mod _)
      simp only [addW, isWd_true.2 ha, w1, Bool.and_self, if_true]; omega
    by_cases e1 : a = b
    · exact Ev.pos e1 (Ev.now _)
    refine Ev.neg e1 ?_
    by_cases e2 : (b - a) % 4294967296 = 2147483648
    · exact Ev.pos e2 (Ev.now _)
    refine Ev.neg e2 (Ev.bind (implSerialLess_ev a b) (Ev.bind (implSerialLess_ev b a) ?_))
    have : (serLess a b != serLess b a) = true := by
      unfold serLess inB
      rw [isWd_true.2 ha, isWd_true.2 hb, Bool.true_and, Bool.true_and, Bool.true_and, Bool.true_and]
      by_cases c1 : 1 ≤ (b - a) % 4294967296 ∧ (b - a) % 4294967296 ≤ 2147483647
      · rw [decide_eq_true c1, decide_eq_false (by omega)]; rfl
      · rw [decide_eq_false c1, decide_eq_true (by omega)]; rfl
    rw [this]; exact Ev.now _
  refine Ev.step (fun k => by simp only [laws_FnSerials.j0]; rfl) ?_
  refine Ev.neg (by decide) ?_
  by_cases hw : (isWd a && isWd b) = true
  · have ha := isWd_true.1 (Bool.and_eq_true_iff.1 hw).1
    have hb2 := isWd_true.1 (Bool.and_eq_true_iff.1 hw).2
    have hg : serGap a b = (0, (b - a) % 4294967296) := by unfold serGap; rw [if_pos hw]
    have hg2 : serGap b a = (0, (a - b) % 4294967296) := by unfold serGap; rw [if_pos (by rw [Bool.and_comm]; exact hw)]
    obtain ⟨a0, a1⟩ := id ha
    obtain ⟨b0, b1⟩ := id hb2
    rw [hg]
    have hone : isWd 1 = true := by decide
    have hx : addW a 1 = (0, (a + 1) % 4294967296) := by unfold addW; rw [isWd_true.2 ha, hone]; rfl
    have hy : addW b 1 = (0, (b + 1) % 4294967296) := by unfold addW; rw [isWd_true.2 hb2, hone]; rfl
    refine Ev.pos rfl (Ev.bind (implSerialGap_ev b a) (Ev.bind (implAddWords_ev a 1) (Ev.bind (implAddWords_ev b 1) (Ev.bind (implSerialLess_ev a b) ?_))))
    rw [hg2, hx, hy]
    have hs : serLess ((a + 1) % 4294967296) ((b + 1) % 4294967296) = serLess a b := by
      unfold serLess inB
      rw [isWd_true.2 ha, isWd_true.2 hb2, isWd_true.2 (Wd.mod _), isWd_true.2 (Wd.mod _)]
      have : ((b + 1) % 4294967296 - (a + 1) % 4294967296) % 4294967296 = (b - a) % 4294967296 := by omega
      rw [this]
    have step2 : Ev (fun k => (impl_SerialLess.f k ((a + 1) % 4294967296) ((b + 1) % 4294967296)).bind fun t215 => (impl_SerialLess.f k a b).bind fun t216 => laws_FnSerials.j1 k a b (t215 != t216) 0 ((b - a) % 4294967296) 0 ((a - b) % 4294967296)) true := by
      refine Ev.bind (implSerialLess_ev _ _) (Ev.bind (implSerialLess_ev _ _) ?_)
      rw [hs, bne_self_eq_false]; exact hj1 ha hb2
    by_cases hl1 : serLess a b = true
    · refine Ev.pos hl1 (Ev.bind (implSerialLess_ev b a) (Ev.neg ?_ step2))
      intro hl2
      unfold serLess inB at hl1 hl2
      rw [isWd_true.2 ha, isWd_true.2 hb2, Bool.true_and, Bool.true_and, decide_eq_true_eq] at hl1 hl2
      omega
    · exact Ev.neg hl1 step2
  · have hg : serGap a b = (3, 0) := by unfold serGap; rw [if_neg hw]
    rw [hg]
    refine Ev.neg (by decide) (Ev.bind (implSerialLess_ev a b) ?_)
    have : serLess a b = false := by
      unfold serLess
      cases h1 : isWd a with
      | false => rfl
      | true =>
        cases h2 : isWd b with
        | false => rfl
        | true => rw [h1, h2] at hw; exact absurd rfl hw
    rw [this]; exact Ev.now _
end FnSerials_
theorem FnSerials : laws_FnSerials.Pure := FnSerials_.FnSerials
end Go.Proofs.Ytacfebnfdmbkaaa.Pure
