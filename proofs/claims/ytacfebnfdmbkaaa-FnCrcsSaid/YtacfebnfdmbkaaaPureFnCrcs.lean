/- The pure statement of FnCrcs: what the printed functions of the program and of the reference compute makes the law answer true, for all arguments (each number of its kind). -/
import Derived.Test.YtacfebnfdmbkaaaPFnCrcsx4
import Derived.Test.YtacfebnfdmbkaaaBase
import Derived.Test.YtacfebnfdmbkaaaSz
set_option linter.unusedVariables false
set_option linter.unusedSimpArgs false
namespace Go.Proofs.Ytacfebnfdmbkaaa.Pure
open Go.RowKit Go.Proofs.Ytacfebnfdmbkaaa.PFnCrcs Go.Proofs.YtacfebnfdmbkaaaW.PrintWords Go.Proofs.YtacfebnfdmbkaaaW.PrintLast Go.Proofs.YtacfebnfdmbkaaaW.PrintMore Go.Proofs.Ytacfebnfdmbkaaa.Base
namespace FnCrcs_
theorem l3Crc_l1 (l : List Int) (i : Nat) (hi : i < l.length) (hl : l.length ≤ 4611686018427387904) (r : Int) (d : Nat) : ∀ (j : Nat) (n : Int), j + d = 8 → Wd n → Ev (fun k => spec_l3Crc.l0 k l (crcI d n) ((i + 1 : Nat) : Int)) r → Ev (fun k => spec_l3Crc.l1 k l n (i : Int) (j : Int)) r := by
  induction d with
  | zero =>
    intro j n h hn he
    refine Ev.step (fun k => ?_) he
    simp only [spec_l3Crc.l1]
    rw [if_neg (by omega), w64 (by omega) (by omega)]; rfl
  | succ d ih =>
    intro j n h hn he
    refine Ev.step (f := fun k => spec_l3Crc.l1 k l (crcT n) (i : Int) ((j + 1 : Nat) : Int)) (fun k => ?_) (ih (j + 1) _ (by omega) hn.crcT he)
    obtain ⟨_, _⟩ := id hn
    simp only [spec_l3Crc.l1]
    rw [if_pos (by omega), Int.tmod_eq_emod_of_nonneg (by omega), Int.tdiv_eq_ediv_of_nonneg (by omega), w64 (x := n / 2) (by omega) (by omega), w64 (x := (j : Int) + 1) (by omega) (by omega), hn.half.bxor Wd.poly]
    unfold crcT
    split <;> rfl
theorem l3Crc_l0 (l : List Int) (hb : Bytes l) (hl : l.length ≤ 4611686018427387904) (d : Nat) : ∀ (i : Nat) (n : Int), i + d = l.length → Wd n → Ev (fun k => spec_l3Crc.l0 k l n (i : Int)) (xr (crcF n (l.drop i)) 4294967295) := by
  induction d with
  | zero =>
    intro i n h hn
    rw [List.drop_of_length_le (by omega)]
    exact Ev.ret fun k => by
      simp only [spec_l3Crc.l0]
      rw [if_neg (by omega), hn.bxor Wd.top]; rfl
  | succ d ih =>
    intro i n h hn
    have hi : i < l.length := by omega
    have hx := hb _ (List.getElem_mem hi)
    rw [List.drop_eq_getElem_cons hi]
    have hn2 := hn.xr (Wd.byte hx)
    refine Ev.step (f := fun k => spec_l3Crc.l1 k l (xr n l[i]) (i : Int) 0) (fun k => ?_) (l3Crc_l1 l i hi hl _ 8 0 _ (by omega) hn2 (ih (i + 1) _ (by omega) (hn2.crcI 8)))
    simp only [spec_l3Crc.l0]
    rw [if_pos (by omega), if_pos (by omega), rd_nat l i hi, w64 (by omega) (by omega), hn.bxor (Wd.byte hx)]
theorem l3Crc_ev (l : List Int) (hb : Bytes l) (hl : l.length ≤ 4611686018427387904) : Ev (fun k => spec_l3Crc.f k l) (crcOf l) := l3Crc_l0 l hb hl l.length 0 _ (by omega) Wd.top
theorem crc_l1 (l : List Int) (i : Nat) (hi : i < l.length) (hl : l.length ≤ 4611686018427387904) (r : Int) (d : Nat) : ∀ (j : Nat) (n : Int), j + d = 8 → Wd n → Ev (fun k => impl_crc.l0 k (crcI d n) l (l.length : Int) ((i + 1 : Nat) : Int)) r → Ev (fun k => impl_crc.l1 k n l (l.length : Int) (i : Int) (j : Int)) r := by
  induction d with
  | zero =>
    intro j n h hn he
    refine Ev.step (fun k => ?_) he
    simp only [impl_crc.l1]
    rw [if_neg (by omega), w64 (by omega) (by omega)]; rfl
  | succ d ih =>
    intro j n h hn he
    refine Ev.step (f := fun k => impl_crc.l1 k (crcT n) l (l.length : Int) (i : Int) ((j + 1 : Nat) : Int)) (fun k => ?_) (ih (j + 1) _ (by omega) hn.crcT he)
    simp only [impl_crc.l1]
    rw [if_pos (by omega), band_one, w64 (x := (j : Int) + 1) (by omega) (by omega), hn.half.bxor Wd.poly]
    unfold crcT
    split <;> rfl
theorem crc_l0 (l : List Int) (hb : Bytes l) (hl : l.length ≤ 4611686018427387904) (d : Nat) : ∀ (i : Nat) (n : Int), i + d = l.length → Wd n → Ev (fun k => impl_crc.l0 k n l (l.length : Int) (i : Int)) (xr (crcF n (l.drop i)) 4294967295) := by
  induction d with
  | zero =>
    intro i n h hn
    rw [List.drop_of_length_le (by omega)]
    exact Ev.ret fun k => by
      simp only [impl_crc.l0]
      rw [if_neg (by omega), hn.bxor Wd.top]; rfl
  | succ d ih =>
    intro i n h hn
    have hi : i < l.length := by omega
    have hx := hb _ (List.getElem_mem hi)
    rw [List.drop_eq_getElem_cons hi]
    have hn2 := hn.xr (Wd.byte hx)
    refine Ev.step (f := fun k => impl_crc.l1 k (xr n l[i]) l (l.length : Int) (i : Int) 0) (fun k => ?_) (crc_l1 l i hi hl _ 8 0 _ (by omega) hn2 (ih (i + 1) _ (by omega) (hn2.crcI 8)))
    simp only [impl_crc.l0]
    rw [if_pos (by omega), if_pos (by omega), if_pos (by omega), rd_nat l i hi, w64 (by omega) (by omega), hn.bxor (Wd.byte hx)]
theorem crc_ev (l : List Int) (hb : Bytes l) (hl : l.length ≤ 4611686018427387904) : Ev (fun k => impl_crc.f k l) (crcOf l) := crc_l0 l hb hl l.length 0 _ (by omega) Wd.top
theorem specCrc32c_ev (l : List Int) (hb : Bytes l) : Ev (fun k => spec_Crc32c.f k l) (crcR l) := by
  unfold spec_Crc32c.f crcR
  by_cases h : l.length > 700
  · simp only [if_pos (show (l.length : Int) > 700 by omega), if_pos h]; exact Ev.now _
  · simp only [if_neg (show ¬ (l.length : Int) > 700 by omega), if_neg h]; exact Ev.bind (l3Crc_ev l hb (by omega)) (Ev.now _)
theorem implCrc32c_ev (l : List Int) (hb : Bytes l) : Ev (fun k => impl_Crc32c.f k l) (crcR l) := by
  unfold impl_Crc32c.f crcR
  by_cases h : l.length > 700
  · simp only [if_pos (show (l.length : Int) > 700 by omega), if_pos h]; exact Ev.now _
  · simp only [if_neg (show ¬ (l.length : Int) > 700 by omega), if_neg h]; exact Ev.bind (crc_ev l hb (by omega)) (Ev.now _)
theorem lwBig_eq (l : List Int) : laws_lwBig.f l = some (decide ((l.length : Int) > 1048576)) := rfl
theorem l1Next_ok {c : List Int} (hb : Bytes c) (hl : c.length ≤ 1048576) {s : Int} (h0 : 0 ≤ s) (h1 : s ≤ 1073741824) {n : Int} (hn : 1 ≤ n) : ∃ v, spec_l1Next.f c s n = some (v, s + 1) ∧ 0 ≤ v ∧ v < n := by
  unfold spec_l1Next.f
  have e1 : wrap64 (s + 1) = s + 1 := w64 (by omega) (by omega)
  have e2 : wrap64 (s + 1 - 1) = s := by rw [w64 (by omega) (by omega)]; omega
  have e3 : wrap64 (s + 2) = s + 2 := w64 (by omega) (by omega)
  simp only [e1, e2, e3]
  rw [if_neg (show ¬ n < 1 by omega)]
  have fin : ∀ X : Int, 0 ≤ X → ∃ v, (if n = 0 then none else some (Int.tmod X n, s + 1)) = some (v, s + 1) ∧ 0 ≤ v ∧ v < n := fun X hX => ⟨Int.tmod X n, by rw [if_neg (by omega)], Int.tmod_nonneg _ hX, Int.tmod_lt_of_pos _ (by omega)⟩
  by_cases hz : (c.length : Int) = 0
  · rw [if_pos hz]
    exact fin _ (by rw [w64 (by omega) (by omega)]; omega)
  · rw [if_neg hz]
    have ix : ∀ t : Int, 0 ≤ t → 0 ≤ Int.tmod t (c.length : Int) ∧ Int.tmod t (c.length : Int) < (c.length : Int) := fun t ht => ⟨Int.tmod_nonneg _ ht, Int.tmod_lt_of_pos _ (by omega)⟩
    rw [if_pos (ix s h0).1, if_pos (ix s h0).2, if_pos (ix (s + 1) (by omega)).1, if_pos (ix (s + 1) (by omega)).2, if_pos (ix (s + 2) (by omega)).1, if_pos (ix (s + 2) (by omega)).2]
    have q0 : 0 ≤ Int.tdiv s (c.length : Int) := Int.tdiv_nonneg h0 (by omega)
    have q1 : Int.tdiv s (c.length : Int) ≤ s := by
      rw [Int.tdiv_eq_ediv_of_nonneg h0]; exact Int.ediv_le_self _ h0
    have b0 := hb.rd (Int.tmod s (c.length : Int))
    have b1 := hb.rd (Int.tmod (s + 1) (c.length : Int))
    have b2 := hb.rd (Int.tmod (s + 2) (c.length : Int))
    generalize rd c (Int.tmod s (c.length : Int)) = x0 at *
    generalize rd c (Int.tmod (s + 1) (c.length : Int)) = x1 at *
    generalize rd c (Int.tmod (s + 2) (c.length : Int)) = x2 at *
    generalize Int.tdiv s (c.length : Int) = q at *
    have v0 : wrap64 (wrap64 x0 + wrap64 (wrap64 q * 37)) = x0 + q * 37 := by
      rw [w64 (x := x0) (by omega) (by omega), w64 (x := q) (by omega) (by omega), w64 (x := q * 37) (by omega) (by omega), w64 (by omega) (by omega)]
    have v1 : wrap64 (wrap64 (wrap64 ((x0 + q * 37) * 251) + wrap64 (wrap64 x1 * 13)) + s) = (x0 + q * 37) * 251 + x1 * 13 + s := by
      rw [w64 (x := x1) (by omega) (by omega), w64 (x := x1 * 13) (by omega) (by omega), w64 (x := (x0 + q * 37) * 251) (by omega) (by omega), w64 (x := (x0 + q * 37) * 251 + x1 * 13) (by omega) (by omega), w64 (by omega) (by omega)]
    have v2 : ∀ y : Int, 0 ≤ y → y ≤ 1152921504606846 → 0 ≤ wrap64 (wrap64 (y * 257) + wrap64 x2) := by
      intro y hy hy1
      rw [w64 (x := x2) (by omega) (by omega), w64 (x := y * 257) (by omega) (by omega), w64 (by omega) (by omega)]; omega
    simp only [v0, v1]
    by_cases ha : n > 200
    · rw [if_pos ha]
      by_cases hc : n > 60000
      · rw [if_pos hc]; exact fin _ (v2 _ (by omega) (by omega))
      · rw [if_neg hc]; exact fin _ (by omega)
    · rw [if_neg ha, if_neg (show ¬ n > 60000 by omega)]; exact fin _ (by omega)
theorem l1Pick_ok {c : List Int} (hb : Bytes c) (hl : c.length ≤ 1048576) {s : Int} (h0 : 0 ≤ s) (h1 : s ≤ 1073741824) (l : List Int) (hn : 1 ≤ l.length) : ∃ v, spec_l1Pick.f c s l = some (v, s + 1) ∧ v ∈ l := by
  obtain ⟨v, hv, v0, v1⟩ := l1Next_ok hb hl h0 h1 (n := (l.length : Int)) (by omega)
  refine ⟨rd l v, ?_, rd_mem l v v0 v1⟩
  unfold spec_l1Pick.f
  rw [hv]; simp only [Option.bind_some]
  rw [if_pos v0, if_pos v1]
theorem l1Chance_ok {c : List Int} (hb : Bytes c) (hl : c.length ≤ 1048576) {s : Int} (h0 : 0 ≤ s) (h1 : s ≤ 1073741824) {n : Int} (hn : 1 ≤ n) : ∃ b, spec_l1Chance.f c s n = some (b, s + 1) := by
  obtain ⟨v, hv, v0, v1⟩ := l1Next_ok hb hl h0 h1 hn
  exact ⟨_, by unfold spec_l1Chance.f; rw [hv]; rfl⟩
theorem l1Source_eq (c : List Int) : spec_l1Source.f c = some (c, 0) := rfl
theorem l1Some_l0 {c : List Int} (hb : Bytes c) (hl : c.length ≤ 1048576) (n : Nat) : ∀ (s : Int) (x : List Int), 0 ≤ s → s + n ≤ 1073741824 → Bytes x → x.length + n ≤ 1000000 → ∃ l, Ev (fun k => spec_l1Some.l0 k (n : Int) x c s) (l, s + n) ∧ Bytes l ∧ l.length = x.length + n := by
  induction n with
  | zero =>
    intro s x h0 h1 hx hn
    refine ⟨x, Ev.ret fun k => ?_, hx, rfl⟩
    simp only [spec_l1Some.l0]; rw [if_neg (by omega)]; simp
  | succ n ih =>
    intro s x h0 h1 hx hn
    obtain ⟨v, hv, v0, v1⟩ := l1Next_ok hb hl h0 (by omega) (n := 256) (by omega)
    have hx2 : Bytes (x ++ [v % 256]) := hx.append (fun y hy => by rw [List.mem_singleton.1 hy]; omega)
    obtain ⟨l, hl1, hl2, hl3⟩ := ih (s + 1) (x ++ [v % 256]) (by omega) (by omega) hx2 (by rw [List.length_append, List.length_singleton]; omega)
    refine ⟨l, ?_, hl2, by rw [hl3, List.length_append, List.length_singleton]; omega⟩
    have e : s + ((n + 1 : Nat) : Int) = s + 1 + (n : Int) := by omega
    rw [e]
    refine Ev.step (fun k => ?_) hl1
    simp only [spec_l1Some.l0]
    rw [if_pos (by omega), hv]; simp only [Option.bind_some]
    rw [if_pos (by omega), w64 (by omega) (by omega)]
    have e2 : ((n + 1 : Nat) : Int) - 1 = (n : Int) := by omega
    rw [e2]
theorem l1Some_ok {c : List Int} (hb : Bytes c) (hl : c.length ≤ 1048576) {s n : Int} (h0 : 0 ≤ s) (h1 : s ≤ 1000000000) (hn0 : 0 ≤ n) (hn : n ≤ 1000000) : ∃ l, Ev (fun k => spec_l1Some.f k c s n) (l, s + n) ∧ Bytes l ∧ (l.length : Int) = n := by
  obtain ⟨m, rfl⟩ := Int.eq_ofNat_of_zero_le hn0
  obtain ⟨l, h2, h3, h4⟩ := l1Some_l0 hb hl m s [] h0 (by omega) Bytes.nil (by simp; omega)
  refine ⟨l, ?_, h3, by simp at h4; omega⟩
  unfold spec_l1Some.f
  exact h2
theorem DrawPadMessage_ok {c : List Int} (hb : Bytes c) (hl : c.length ≤ 1048576) : ∃ l, Ev (fun k => spec_DrawPadMessage.f k c) l ∧ Bytes l ∧ l.length ≤ 701 := by
  unfold spec_DrawPadMessage.f
  rw [l1Source_eq]; simp only [Option.bind_some]
  obtain ⟨a, ha, a0, a1⟩ := l1Next_ok hb hl (s := 0) (by omega) (by omega) (n := 120) (by omega)
  rw [ha]; simp only [Option.bind_some]
  obtain ⟨n, hn, nm⟩ := l1Pick_ok hb hl (s := 0 + 1) (by omega) (by omega) [0, 1, 3, 55, 56, 63, 64, a] (by simp)
  rw [hn]; simp only [Option.bind_some]
  have n0 : 0 ≤ n ∧ n ≤ 119 := by
    simp only [List.mem_cons, List.not_mem_nil, or_false] at nm
    rcases nm with rfl | rfl | rfl | rfl | rfl | rfl | rfl | rfl <;> omega
  obtain ⟨q, hq⟩ := l1Chance_ok hb hl (s := 0 + 1 + 1) (by omega) (by omega) (n := 20) (by omega)
  rw [hq]; simp only [Option.bind_some]
  cases q with
  | false =>
    obtain ⟨l, h1, h2, h3⟩ := l1Some_ok hb hl (s := 0 + 1 + 1 + 1) (n := n) (by omega) (by omega) n0.1 (by omega)
    exact ⟨l, by simp only [Bool.false_eq_true, if_false]; exact Ev.bind h1 (Ev.now _), h2, by omega⟩
  | true =>
    obtain ⟨m, hm, mm⟩ := l1Pick_ok hb hl (s := 0 + 1 + 1 + 1) (by omega) (by omega) [700, 701] (by simp)
    have m0 : 0 ≤ m ∧ m ≤ 701 := by
      simp only [List.mem_cons, List.not_mem_nil, or_false] at mm
      rcases mm with rfl | rfl <;> omega
    obtain ⟨l, h1, h2, h3⟩ := l1Some_ok hb hl (s := 0 + 1 + 1 + 1 + 1) (n := m) (by omega) (by omega) m0.1 (by omega)
    exact ⟨l, by simp only [if_true]; rw [hm]; simp only [Option.bind_some]; exact Ev.bind h1 (Ev.now _), h2, by omega⟩
theorem DrawCrc32c_ok {c : List Int} (hb : Bytes c) (hl : c.length ≤ 1048576) : ∃ l, Ev (fun k => spec_DrawCrc32c.f k c) l ∧ Bytes l ∧ l.length ≤ 701 := by
  obtain ⟨l, h1, h2, h3⟩ := DrawPadMessage_ok hb hl
  exact ⟨l, by unfold spec_DrawCrc32c.f; exact Ev.bind h1 (Ev.now _), h2, h3⟩
theorem lwAt_ok {c : List Int} (hb : Bytes c) (hl : c.length ≤ 1048576) {s : Int} (h0 : 0 ≤ s) (h1 : s ≤ 1000) {n : Int} (hn : 1 ≤ n) : ∃ v, laws_lwAt.f c s n = some v ∧ 0 ≤ v ∧ v < n := by
  unfold laws_lwAt.f
  by_cases h : n ≤ 1
  · rw [if_pos h]; exact ⟨0, rfl, by omega, by omega⟩
  rw [if_neg h]
  have e1 : wrap64 (s + 1) = s + 1 := w64 (by omega) (by omega)
  simp only [e1]
  have fin : ∀ X : Int, 0 ≤ X → ∃ v, (if n = 0 then none else some (Int.tmod X n)) = some v ∧ 0 ≤ v ∧ v < n := fun X hX => ⟨Int.tmod X n, by rw [if_neg (by omega)], Int.tmod_nonneg _ hX, Int.tmod_lt_of_pos _ (by omega)⟩
  by_cases hz : (c.length : Int) = 0
  · rw [if_pos hz]
    exact fin _ (by rw [w64 (by omega) (by omega)]; omega)
  · rw [if_neg hz]
    have ix : ∀ t : Int, 0 ≤ t → 0 ≤ Int.tmod t (c.length : Int) ∧ Int.tmod t (c.length : Int) < (c.length : Int) := fun t ht => ⟨Int.tmod_nonneg _ ht, Int.tmod_lt_of_pos _ (by omega)⟩
    rw [if_pos (ix s h0).1, if_pos (ix s h0).2, if_pos (ix (s + 1) (by omega)).1, if_pos (ix (s + 1) (by omega)).2]
    have q0 : 0 ≤ Int.tdiv s (c.length : Int) := Int.tdiv_nonneg h0 (by omega)
    have q1 : Int.tdiv s (c.length : Int) ≤ s := by
      rw [Int.tdiv_eq_ediv_of_nonneg h0]; exact Int.ediv_le_self _ h0
    have b0 := hb.rd (Int.tmod s (c.length : Int))
    have b1 := hb.rd (Int.tmod (s + 1) (c.length : Int))
    generalize rd c (Int.tmod s (c.length : Int)) = x0 at *
    generalize rd c (Int.tmod (s + 1) (c.length : Int)) = x1 at *
    generalize Int.tdiv s (c.length : Int) = q at *
    have v0 : wrap64 (wrap64 x0 + wrap64 (wrap64 q * 3)) = x0 + q * 3 := by
      rw [w64 (x := x0) (by omega) (by omega), w64 (x := q) (by omega) (by omega), w64 (x := q * 3) (by omega) (by omega), w64 (by omega) (by omega)]
    have v1 : wrap64 (wrap64 ((x0 + q * 3) * 251) + wrap64 x1) = (x0 + q * 3) * 251 + x1 := by
      rw [w64 (x := x1) (by omega) (by omega), w64 (x := (x0 + q * 3) * 251) (by omega) (by omega), w64 (by omega) (by omega)]
    simp only [v0, v1]
    by_cases ha : n > 200
    · rw [if_pos ha]; exact fin _ (by omega)
    · rw [if_neg ha]; exact fin _ (by omega)
theorem lwTurned_eq {l : List Int} (hb : Bytes l) (hl : l.length ≤ 4000000000) {i m : Int} (h0 : 0 ≤ i) (h1 : i < (l.length : Int)) (m0 : 1 ≤ m) (m1 : m ≤ 255) : laws_lwTurned.f l i m = some (l.set i.toNat (xr (rd l i) m)) := by
  unfold laws_lwTurned.f
  simp only [Option.bind_some, List.nil_append, List.length_nil]
  rw [if_pos (show 0 + l.length < 140737488355328 by omega), if_pos h0, if_pos h1, if_pos h0, show m % 256 = m by omega, bxor8_eq (hb.rd i) (by omega)]
--@block turned
theorem turned_get {l : List Int} {i m : Int} (h0 : 0 ≤ i) (h1 : i < (l.length : Int)) : ∃ j : Nat, ∃ h : j < l.length, i.toNat = j ∧ rd l i = l[j] := by
  obtain ⟨j, rfl⟩ := Int.eq_ofNat_of_zero_le h0
  exact ⟨j, by omega, by omega, rd_nat l j (by omega)⟩
theorem FnCrcs : laws_FnCrcs.Pure := by
  intro c _ hc1 hc2
  have hb := Bytes.of_wf hc2
  apply Ev.rounds
  unfold laws_FnCrcs.f
  simp only [lwBig_eq, Option.bind_some]
  by_cases hbig : (c.length : Int) > 1048576
  · simp only [decide_eq_true hbig, if_true]; exact Ev.now _
  simp only [decide_eq_false hbig, Bool.false_eq_true, if_false]
  obtain ⟨l, h1, h2, h3⟩ := DrawCrc32c_ok hb (by omega)
  refine Ev.bind h1 (Ev.bind (implCrc32c_ev l h2) (Ev.bind (specCrc32c_ev l h2) ?_))
  simp only [beq_self_eq_true, Bool.not_true, Bool.or_self, Bool.false_eq_true, if_false]
  by_cases h4 : l.length > 700
  · have e : crcR l = (2, 0) := by unfold crcR; rw [if_pos h4]
    rw [e]; exact Ev.neg (by decide) (Ev.now _)
  have e : crcR l = (0, crcOf l) := by unfold crcR; rw [if_neg h4]
  have hw := h2.crcOf
  rw [e]
  refine Ev.pos rfl (Ev.neg (by have := hw.1; omega) ?_)
  rw [decide_eq_false (show ¬ crcOf l > 4294967295 by have := hw.2; omega)]
  refine Ev.step (fun k => by simp only [laws_FnCrcs.j0]; rfl) ?_
  refine Ev.neg (by decide) ?_
  by_cases hz : (l.length : Int) = 0
  · exact Ev.pos hz (Ev.now _)
  refine Ev.neg hz ?_
  obtain ⟨i, hi, i0, i1⟩ := lwAt_ok hb (show c.length ≤ 1048576 by omega) (s := 2) (by omega) (by omega) (n := (l.length : Int)) (by omega)
  obtain ⟨m, hm, m0, m1⟩ := lwAt_ok hb (show c.length ≤ 1048576 by omega) (s := 3) (by omega) (by omega) (n := 255) (by omega)
  rw [hi]; simp only [Option.bind_some]; rw [hm]; simp only [Option.bind_some]
  rw [w64 (x := 1 + m) (by omega) (by omega), lwTurned_eq h2 (by omega) i0 i1 (by omega) (by omega)]
  simp only [Option.bind_some]
  obtain ⟨j, hj, e1, e2⟩ := turned_get (m := m) i0 i1
  have hx : 0 ≤ xr (rd l i) (1 + m) ∧ xr (rd l i) (1 + m) ≤ 255 := xr_byte (h2.rd i) (by omega)
  have hs : Bytes (l.set i.toNat (xr (rd l i) (1 + m))) := fun x hx2 => by
    rcases List.mem_or_eq_of_mem_set hx2 with h | rfl
    · exact h2 x h
    · exact hx
  refine Ev.bind (implCrc32c_ev _ hs) ?_
  have e3 : crcR (l.set i.toNat (xr (rd l i) (1 + m))) = (0, crcOf (l.set i.toNat (xr (rd l i) (1 + m)))) := by unfold crcR; rw [List.length_set, if_neg h4]
  rw [e3]
  have hne : crcOf (l.set i.toNat (xr (rd l i) (1 + m))) ≠ crcOf l := by
    rw [e1]
    refine crcOf_turned h2 hj hx ?_
    rw [e2]; exact xr_ne (h2 _ (List.getElem_mem hj)).1 (by omega)
  rw [bne_iff_ne.2 hne]; exact Ev.now _
end FnCrcs_
theorem FnCrcs : laws_FnCrcs.Pure := FnCrcs_.FnCrcs
end Go.Proofs.Ytacfebnfdmbkaaa.Pure
