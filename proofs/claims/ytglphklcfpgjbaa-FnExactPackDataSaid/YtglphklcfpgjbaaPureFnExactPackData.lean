/- The pure statement of FnExactPackData: what the printed functions of the program and of the reference compute makes the law answer true, for all arguments (each number of its kind). -/
import Derived.Test.YtglphklcfpgjbaaPFnExactPackDatax6
import Derived.Test.YtglphklcfpgjbaaBase
set_option linter.unusedVariables false
set_option linter.unusedSimpArgs false
namespace Go.Proofs.Ytglphklcfpgjbaa.Pure
open Go.RowKit Go.Proofs.Ytglphklcfpgjbaa.PFnExactPackData Go.Proofs.YtglphklcfpgjbaaW.PrintWords Go.Proofs.YtglphklcfpgjbaaW.PrintLast Go.Proofs.YtglphklcfpgjbaaW.PrintMore Go.Proofs.Ytglphklcfpgjbaa.Base
namespace FnExactPackData_
theorem l1In_eq (a b c : Int) : spec_l1In.f a b c = some (inB a b c) := ge_le
theorem within_eq (a b c : Int) : impl_within.f a b c = some (inB a b c) := ge_le
theorem l1Word32_eq (a : Int) : spec_l1Word32.f a = some (isWd a) := by
  unfold spec_l1Word32.f; rw [l1In_eq]; rfl
theorem isWord_eq (a : Int) : impl_isWord.f a = some (isWd a) := by
  unfold impl_isWord.f; rw [within_eq]; rfl
theorem toByteS_l0 (l : List Int) (hl : l.length ≤ 281474976710656) (d : Nat) : ∀ (i : Nat) (x : List Int), i + d = l.length → x.length = l.length → x.take i = l.take i → Ev (fun k => laws_toByteS.l0 k l x (i : Int)) l := by
  induction d with
  | zero =>
    intro i x h hx ht
    have e : x = l := by
      rw [List.take_of_length_le (by omega), List.take_of_length_le (by omega)] at ht
      exact ht
    subst e
    exact Ev.ret fun k => by simp only [laws_toByteS.l0]; rw [if_neg (by omega)]
  | succ d ih =>
    intro i x h hx ht
    have hi : i < l.length := by omega
    refine Ev.step (f := fun k => laws_toByteS.l0 k l (x.set i l[i]) ((i + 1 : Nat) : Int)) (fun k => ?_) ?_
    · simp only [laws_toByteS.l0]
      rw [if_pos (by omega), if_pos (by omega), if_pos (by omega), rd_nat l i hi, w64 (by omega) (by omega)]
      simp only [Int.toNat_natCast]; rfl
    · refine ih (i + 1) _ (by omega) (by rw [List.length_set]; exact hx) ?_
      rw [List.take_succ_eq_append_getElem (by rw [List.length_set]; omega), List.take_succ_eq_append_getElem hi, List.getElem_set_self, List.take_set_of_le (by omega), ht]
theorem toByteS_ev (l : List Int) (hl : l.length ≤ 281474976710656) : Ev (fun k => laws_toByteS.f k l) l := by
  unfold laws_toByteS.f
  simp only [if_pos (show (0 : Int) ≤ (l.length : Int) by omega), if_pos (show ((l.length : Int) : Int).toNat ≤ 281474976710656 by omega)]
  exact toByteS_l0 l hl l.length 0 _ (by omega) (by simp) (by simp)
theorem eqByteS_l0 (l : List Int) (hl : l.length ≤ 4611686018427387904) (d : Nat) : ∀ i : Nat, i + d = l.length → Ev (fun k => laws_eqByteS.l0 k l l (i : Int)) true := by
  induction d with
  | zero =>
    intro i h
    exact Ev.ret fun k => by simp only [laws_eqByteS.l0]; rw [if_neg (by omega)]
  | succ d ih =>
    intro i h
    refine Ev.step (f := fun k => laws_eqByteS.l0 k l l ((i + 1 : Nat) : Int)) (fun k => ?_) (ih (i + 1) (by omega))
    simp only [laws_eqByteS.l0]
    rw [if_pos (by omega), if_pos (by omega), if_pos (by omega), if_pos (by trivial), w64 (by omega) (by omega)]; rfl
theorem eqByteS_self (l : List Int) (hl : l.length ≤ 4611686018427387904) : Ev (fun k => laws_eqByteS.f k l l) true := by
  unfold laws_eqByteS.f
  simp only [if_true]
  exact eqByteS_l0 l hl l.length 0 (by omega)
theorem l1Pack_eq {w : Int} (hw : Wd w) : spec_l1Pack.f w = some (pack4 w) := by
  obtain ⟨_, _⟩ := hw
  unfold spec_l1Pack.f pack4
  rw [Int.tdiv_eq_ediv_of_nonneg (by omega), Int.tdiv_eq_ediv_of_nonneg (by omega), Int.tdiv_eq_ediv_of_nonneg (by omega), w64 (x := w / 16777216) (by omega) (by omega), w64 (x := w / 65536) (by omega) (by omega), w64 (x := w / 256) (by omega) (by omega), Int.tmod_eq_emod_of_nonneg (by omega), Int.tmod_eq_emod_of_nonneg (by omega), Int.tmod_eq_emod_of_nonneg (by omega)]
  simp only [Int.emod_emod]
theorem four_eq (w : Int) : impl_four.f w = some (pack4 w) := rfl
theorem markByteS_l0 (n : Nat) (hn : n ≤ 281474976710656) (a : Int) (ha : 0 ≤ a) (ha1 : a ≤ 4611686018427387904) (d : Nat) : ∀ (i : Nat) (x : List Int), i + d = n → x.length = n → x.take i = mks a i → Ev (fun k => laws_markByteS.l0 k x (a + i) (i : Int)) (a + n, mks a n) := by
  induction d with
  | zero =>
    intro i x h hx ht
    have e : x = mks a n := by
      rw [show i = n by omega, List.take_of_length_le (by omega)] at ht
      exact ht
    obtain rfl : i = n := by omega
    subst e
    exact Ev.ret fun k => by simp only [laws_markByteS.l0]; rw [if_neg (by rw [mks_length]; omega)]
  | succ d ih =>
    intro i x h hx ht
    have hi : i < x.length := by omega
    refine Ev.step (f := fun k => laws_markByteS.l0 k (x.set i ((a + i) % 256)) (a + ((i + 1 : Nat) : Int)) ((i + 1 : Nat) : Int)) (fun k => ?_) (ih (i + 1) _ (by omega) (by rw [List.length_set]; exact hx) ?_)
    · simp only [laws_markByteS.l0]
      rw [if_pos (by omega), if_pos (by omega), w64 (x := (i : Int) + 1) (by omega) (by omega), w64 (x := a + i + 1) (by omega) (by omega)]
      simp only [Int.toNat_natCast]
      have : a + (i : Int) + 1 = a + ((i + 1 : Nat) : Int) := by omega
      rw [this]; rfl
    · rw [List.take_succ_eq_append_getElem (by rw [List.length_set]; omega), List.getElem_set_self, List.take_set_of_le (by omega), ht, mks_snoc]
theorem markByteS_ev (l : List Int) (hl : l.length ≤ 281474976710656) (a : Int) (ha : 0 ≤ a) (ha1 : a ≤ 4611686018427387904) : Ev (fun k => laws_markByteS.f k l a) (a + l.length, mks a l.length) := by
  have h := markByteS_l0 l.length hl a ha ha1 l.length 0 l (by omega) rfl rfl
  unfold laws_markByteS.f
  simpa only [Int.natCast_zero, Int.add_zero] using h
theorem heldByteS_l0 (n : Nat) (hn : n ≤ 281474976710656) (a : Int) (ha : 0 ≤ a) (ha1 : a ≤ 4611686018427387904) (d : Nat) : ∀ (i : Nat), i + d = n → Ev (fun k => laws_heldByteS.l0 k (mks a n) (a + i) (i : Int)) (a + n) := by
  induction d with
  | zero =>
    intro i h
    obtain rfl : i = n := by omega
    exact Ev.ret fun k => by simp only [laws_heldByteS.l0]; rw [if_neg (by rw [mks_length]; omega)]
  | succ d ih =>
    intro i h
    refine Ev.step (f := fun k => laws_heldByteS.l0 k (mks a n) (a + ((i + 1 : Nat) : Int)) ((i + 1 : Nat) : Int)) (fun k => ?_) (ih (i + 1) (by omega))
    simp only [laws_heldByteS.l0]
    rw [if_pos (by rw [mks_length]; omega), if_pos (by omega), rd_nat _ i (by rw [mks_length]; omega), mks_get a n i (by omega), if_pos rfl, w64 (x := (i : Int) + 1) (by omega) (by omega), w64 (x := a + i + 1) (by omega) (by omega)]
    have : a + (i : Int) + 1 = a + ((i + 1 : Nat) : Int) := by omega
    rw [this]; rfl
theorem heldByteS_ev (n : Nat) (hn : n ≤ 281474976710656) (a : Int) (ha : 0 ≤ a) (ha1 : a ≤ 4611686018427387904) : Ev (fun k => laws_heldByteS.f k (mks a n) a) (a + n) := by
  have h := heldByteS_l0 n hn a ha ha1 n 0 (by omega)
  unfold laws_heldByteS.f
  simpa only [Int.natCast_zero, Int.add_zero] using h
theorem blk_len {p : List Int} {m n : Nat} (hp : p.length = 64 * m) (hn : n < m) : ((p.take (64 * n + 64)).drop (64 * n)).length = 64 := by
  rw [List.length_drop, List.length_take]; omega
theorem blk_ifs {n m : Nat} (hm : m ≤ 1000) (hn : n < m) : ((64 * n : Nat) : Int) < ((64 * m : Nat) : Int) ∧ 0 ≤ ((64 * n : Nat) : Int) ∧ ((64 * n : Nat) : Int) ≤ ((64 * n + 64 : Nat) : Int) ∧ ((64 * n + 64 : Nat) : Int) ≤ ((64 * m : Nat) : Int) ∧ wrap64 (((64 * n : Nat) : Int) + 64) = ((64 * n + 64 : Nat) : Int) := by
  refine ⟨by omega, by omega, by omega, by omega, ?_⟩
  rw [w64 (by omega) (by omega)]; omega
theorem padded_64 (l : List Int) : (padded l).length = 64 * ((padded l).length / 64) := by
  rw [padded_length]; unfold zerosFor; omega
theorem padded_few {l : List Int} (h : l.length ≤ 700) : (padded l).length / 64 ≤ 1000 := by
  rw [padded_length]; unfold zerosFor; omega
theorem szByteS_big {l : List Int} (hl : l.length ≤ 9223372036854775807) {a : Int} (h0 : 0 ≤ a) (h1 : a ≤ 1048576) (h : a < (l.length : Int)) : laws_szByteS.f l a = some (-1) := by
  unfold laws_szByteS.f
  rw [w64 (by omega) (by omega), if_pos (by omega)]
theorem szByteS_ok {l : List Int} {a : Int} (h1 : a ≤ 1048576) (h : (l.length : Int) ≤ a) : laws_szByteS.f l a = some (a - (l.length : Int)) := by
  unfold laws_szByteS.f
  rw [w64 (by omega) (by omega), if_neg (by omega)]
theorem eqChunk_self (a b : Int) (l : List Int) (hl : l.length ≤ 4611686018427387904) : Ev (fun k => laws_eqChunk.f k a b l a b l) true := by
  unfold laws_eqChunk.f
  exact Ev.pos rfl (Ev.pos rfl (Ev.bind (eqByteS_self l hl) (Ev.pos rfl (Ev.now _))))
theorem l1Pair_eq {n : Int} (h0 : 0 ≤ n) (h1 : n ≤ 4294967295) : spec_l1Pair.f n = some [n / 256 % 256, n % 256] := by
  unfold spec_l1Pair.f
  rw [Int.tdiv_eq_ediv_of_nonneg h0, w64 (by omega) (by omega), Int.tmod_eq_emod_of_nonneg h0, Int.emod_emod]
theorem markChunk_ev (a b : Int) (l : List Int) (hl : l.length ≤ 281474976710656) : Ev (fun k => laws_markChunk.f k a b l 1) (1 + l.length, mks 1 l.length) := by
  unfold laws_markChunk.f
  exact Ev.bind (markByteS_ev l hl 1 (by omega) (by omega)) (Ev.now _)
theorem Grow_eq {n : Int} (h0 : 0 ≤ n) (h1 : n ≤ 1000000) : slices_Grow_byte_byte.f [] n = some [] := by
  unfold slices_Grow_byte_byte.f
  rw [if_pos h0, if_pos (by omega)]
def sumLen (xs : List (List Int)) : Nat := xs.flatten.length
theorem rdL1 (xs : List (List Int)) (i : Nat) (h : i < xs.length) : rd_L1 xs (i : Int) = xs[i] := by
  unfold rd_L1; rw [Int.toNat_natCast, List.getD_eq_getElem?_getD, List.getElem?_eq_getElem h]; rfl
theorem Concat_l1 (x0 xs : List (List Int)) (hn : xs.length ≤ 1000) (hs : xs.flatten.length ≤ 1000000) (d : Nat) : ∀ (i : Nat) (acc : List Int), i + d = xs.length → acc.length + ((xs.drop i).flatten).length ≤ 1000000 → Ev (fun k => slices_Concat_byte_byte.l1 k acc xs (xs.length : Int) (i : Int)) (acc ++ (xs.drop i).flatten) := by
  induction d with
  | zero =>
    intro i acc h ha
    refine Ev.ret fun k => ?_
    simp only [slices_Concat_byte_byte.l1]
    rw [if_neg (by omega), List.drop_of_length_le (by omega)]
    simp
  | succ d ih =>
    intro i acc h ha
    have hi : i < xs.length := by omega
    have hr : rd_L1 xs (i : Int) = xs[i] := rdL1 xs i hi
    have hw : wrap64 ((i : Int) + 1) = ((i + 1 : Nat) : Int) := w64_succ (by omega)
    have e : (xs.drop i).flatten = xs[i] ++ (xs.drop (i + 1)).flatten := by rw [drop_cons xs i hi, List.flatten_cons]
    have hl : (xs.drop i).flatten.length = xs[i].length + (xs.drop (i + 1)).flatten.length := by rw [e, List.length_append]
    rw [e, ← List.append_assoc]
    refine Ev.step (fun k => by simp only [slices_Concat_byte_byte.l1, hr, hw]; rfl) ?_
    exact Ev.pos (by omega) (Ev.pos (by omega) (Ev.pos (by omega) (Ev.pos (by omega) (ih (i + 1) (acc ++ xs[i]) (by omega) (by rw [List.length_append]; omega)))))
theorem Concat_l0 (xs : List (List Int)) (hn : xs.length ≤ 1000) (hs : xs.flatten.length ≤ 1000000) (d : Nat) : ∀ (i s : Nat), i + d = xs.length → s + ((xs.drop i).flatten).length ≤ 1000000 → Ev (fun k => slices_Concat_byte_byte.l0 k xs (s : Int) xs (xs.length : Int) (i : Int)) xs.flatten := by
  induction d with
  | zero =>
    intro i s h ha
    have h1 := Concat_l1 xs xs hn hs xs.length 0 [] (by omega) (by simpa using hs)
    simp only [List.drop_zero, List.nil_append] at h1
    refine Ev.step (fun k => by simp only [slices_Concat_byte_byte.l0, Grow_eq (n := (s : Int)) (by omega) (by omega), Option.bind_some]; rfl) (Ev.neg (by omega) h1)
  | succ d ih =>
    intro i s h ha
    have hi : i < xs.length := by omega
    have hr : rd_L1 xs (i : Int) = xs[i] := rdL1 xs i hi
    have hw : wrap64 ((i : Int) + 1) = ((i + 1 : Nat) : Int) := w64_succ (by omega)
    have hl : (xs.drop i).flatten.length = xs[i].length + (xs.drop (i + 1)).flatten.length := by rw [drop_cons xs i hi, List.flatten_cons, List.length_append]
    have hv : wrap64 ((s : Int) + (xs[i].length : Int)) = ((s + xs[i].length : Nat) : Int) := by rw [w64 (by omega) (by omega)]; omega
    refine Ev.step (fun k => by simp only [slices_Concat_byte_byte.l0, hr, hw, hv]; rfl) ?_
    exact Ev.pos (by omega) (Ev.pos (by omega) (Ev.pos (by omega) (Ev.neg (by omega) (ih (i + 1) (s + xs[i].length) (by omega) (by omega)))))
theorem Concat_ev (xs : List (List Int)) (hn : xs.length ≤ 1000) (hs : xs.flatten.length ≤ 1000000) : Ev (fun k => slices_Concat_byte_byte.f k xs) xs.flatten := by
  have h := Concat_l0 xs hn hs xs.length 0 0 (by omega) (by simpa using hs)
  unfold slices_Concat_byte_byte.f
  exact h
theorem chunk_ev (a b : Int) (xs : List (List Int)) (hn : xs.length ≤ 1000) (hs : xs.flatten.length ≤ 1000000) : Ev (fun k => impl_chunk.f k a b xs) (0, a, b, xs.flatten) := by
  unfold impl_chunk.f
  exact Ev.bind (Concat_ev xs hn hs) (Ev.now _)
theorem two_eq (n : Int) : impl_two.f n = some [n / 256 % 256, n % 256] := rfl
theorem isPair_eq (n : Int) : impl_isPair.f n = some (inB n 0 65535) := by unfold impl_isPair.f; rw [within_eq]; rfl
theorem isStream_eq (n : Int) : impl_isStream.f n = some (inB n 0 9) := by unfold impl_isStream.f; rw [within_eq]; rfl
theorem l5Bad_eq (c : Int) : spec_l5Bad.f c = some (c, 0, 0, []) := rfl
theorem eqChunkResult_self (c a b : Int) (l : List Int) (hl : l.length ≤ 4611686018427387904) : Ev (fun k => laws_eqChunkResult.f k c a b l c a b l) true := by
  unfold laws_eqChunkResult.f
  exact Ev.pos rfl (Ev.bind (eqChunk_self a b l hl) (Ev.pos rfl (Ev.now _)))
theorem markChunkResult_ev (c a b : Int) (l : List Int) (hl : l.length ≤ 281474976710656) : Ev (fun k => laws_markChunkResult.f k c a b l 1) (1 + l.length, mks 1 l.length) := by
  unfold laws_markChunkResult.f
  exact Ev.bind (markChunk_ev a b l hl) (Ev.now _)
theorem heldChunk_ev (a b : Int) (n : Nat) (hn : n ≤ 281474976710656) : Ev (fun k => laws_heldChunk.f k a b (mks 1 n) 1) (1 + n) := by
  unfold laws_heldChunk.f
  exact Ev.bind (heldByteS_ev n hn 1 (by omega) (by omega)) (Ev.neg (by omega) (Ev.now _))
theorem heldChunkResult_ev (c a b : Int) (n : Nat) (hn : n ≤ 281474976710656) : Ev (fun k => laws_heldChunkResult.f k c a b (mks 1 n) 1) (1 + n) := by
  unfold laws_heldChunkResult.f
  exact Ev.bind (heldChunk_ev a b n hn) (Ev.neg (by omega) (Ev.now _))
def dataFlags (a3 a4 a5 : Bool) : Int := (if a4 = true then 1 else 0) + (if a3 = true then 2 else 0) + (if a5 = true then 4 else 0)
def dataBody (a0 a1 a2 : Int) (l : List Int) : List Int := pack4 a0 ++ [a1 / 256 % 256, a1 % 256] ++ [a2 / 256 % 256, a2 % 256] ++ l
def dataF (a0 a1 a2 : Int) (a5 : Bool) (l : List Int) : Int := if isWd a0 = true then (if inB a1 0 9 = true then (if inB a2 0 65535 = true then (if 1 ≤ l.length ∧ l.length ≤ 100 then (if a5 = true then (if a2 = 0 then 0 else 1) else 0) else 2) else 3) else 3) else 3
def dataR (a0 a1 a2 : Int) (a3 a4 a5 : Bool) (l : List Int) : Int × Int × Int × List Int := if dataF a0 a1 a2 a5 l = 0 then (0, 0, dataFlags a3 a4 a5, dataBody a0 a1 a2 l) else (dataF a0 a1 a2 a5 l, 0, 0, [])
theorem dataBody_len (a0 a1 a2 : Int) (l : List Int) : (dataBody a0 a1 a2 l).length = 8 + l.length := by simp [dataBody, pack4]; omega
theorem dataF_zero {a0 a1 a2 : Int} {a5 : Bool} {l : List Int} (h : dataF a0 a1 a2 a5 l = 0) : Wd a0 ∧ (0 ≤ a1 ∧ a1 ≤ 9) ∧ (0 ≤ a2 ∧ a2 ≤ 65535) ∧ l.length ≤ 100 := by
  unfold dataF at h
  by_cases h0 : isWd a0 = true
  · by_cases h1 : inB a1 0 9 = true
    · by_cases h2 : inB a2 0 65535 = true
      · by_cases h3 : 1 ≤ l.length ∧ l.length ≤ 100
        · exact ⟨isWd_true.1 h0, inB_true.1 h1, inB_true.1 h2, h3.2⟩
        · rw [if_pos h0, if_pos h1, if_pos h2, if_neg h3] at h; exact absurd h (by decide)
      · rw [if_pos h0, if_pos h1, if_neg h2] at h; exact absurd h (by decide)
    · rw [if_pos h0, if_neg h1] at h; exact absurd h (by decide)
  · rw [if_neg h0] at h; exact absurd h (by decide)
theorem dataR_len (a0 a1 a2 : Int) (a3 a4 a5 : Bool) (l : List Int) : (dataR a0 a1 a2 a3 a4 a5 l).2.2.2.length ≤ 108 := by
  unfold dataR
  by_cases h : dataF a0 a1 a2 a5 l = 0
  · rw [if_pos h]; have := (dataF_zero h).2.2.2; show (dataBody a0 a1 a2 l).length ≤ 108; rw [dataBody_len]; omega
  · rw [if_neg h]; exact Nat.zero_le _
theorem l5DataFault_j1 (a0 a1 a2 : Int) (a3 a4 a5 : Bool) (l : List Int) (q : Bool) : Ev (fun k => spec_l5DataFault.j1 k q a0 a1 a2 a3 a4 a5 l) (if q = true then 2 else (if a5 = true then (if a2 = 0 then 0 else 1) else 0)) := by
  refine Ev.ret fun k => ?_
  simp only [spec_l5DataFault.j1]
  cases q <;> cases a5 <;> by_cases h : a2 = 0 <;> simp [h]
theorem l5DataFault_j0 (a0 a1 a2 : Int) (a3 a4 a5 : Bool) (l : List Int) : Ev (fun k => spec_l5DataFault.j0 k false a0 a1 a2 a3 a4 a5 l) (if 1 ≤ l.length ∧ l.length ≤ 100 then (if a5 = true then (if a2 = 0 then 0 else 1) else 0) else 2) := by
  refine Ev.step (fun k => by simp only [spec_l5DataFault.j0]; rfl) (Ev.neg (by decide) ?_)
  by_cases h1 : (l.length : Int) < 1
  · rw [if_neg (by omega)]
    exact Ev.pos h1 (l5DataFault_j1 a0 a1 a2 a3 a4 a5 l true)
  · refine Ev.neg h1 ?_
    by_cases h2 : (l.length : Int) > 100
    · rw [if_neg (by omega), decide_eq_true h2]
      exact l5DataFault_j1 a0 a1 a2 a3 a4 a5 l true
    · rw [if_pos (by omega), decide_eq_false h2]
      exact l5DataFault_j1 a0 a1 a2 a3 a4 a5 l false
theorem l5DataFault_j0t (a0 a1 a2 : Int) (a3 a4 a5 : Bool) (l : List Int) : Ev (fun k => spec_l5DataFault.j0 k true a0 a1 a2 a3 a4 a5 l) 3 := Ev.ret fun k => by simp only [spec_l5DataFault.j0, if_true]
theorem l5DataFault_ev (a0 a1 a2 : Int) (a3 a4 a5 : Bool) (l : List Int) : Ev (fun k => spec_l5DataFault.f k a0 a1 a2 a3 a4 a5 l) (dataF a0 a1 a2 a5 l) := by
  unfold spec_l5DataFault.f dataF
  simp only [l1Word32_eq, l1In_eq, Option.bind_some]
  by_cases h0 : isWd a0 = true
  · rw [if_pos h0]
    refine Ev.pos h0 ?_
    by_cases h1 : inB a1 0 9 = true
    · rw [if_pos h1]
      refine Ev.pos h1 ?_
      by_cases h2 : inB a2 0 65535 = true
      · rw [if_pos h2, h2]; exact l5DataFault_j0 a0 a1 a2 a3 a4 a5 l
      · rw [if_neg h2, Bool.eq_false_iff.2 h2]; exact l5DataFault_j0t a0 a1 a2 a3 a4 a5 l
    · rw [if_neg h1]
      exact Ev.neg h1 (l5DataFault_j0t a0 a1 a2 a3 a4 a5 l)
  · rw [if_neg h0]
    exact Ev.neg h0 (l5DataFault_j0t a0 a1 a2 a3 a4 a5 l)
theorem l5Data_j1 {a0 a1 a2 : Int} (a3 a4 a5 : Bool) {l : List Int} (h0 : Wd a0) (h1 : 0 ≤ a1 ∧ a1 ≤ 9) (h2 : 0 ≤ a2 ∧ a2 ≤ 65535) (hl : l.length ≤ 100) {n : Int} (hn : 0 ≤ n ∧ n ≤ 3) : Ev (fun k => spec_l5Data.j1 k a0 a1 a2 a3 a4 a5 l 0 n) (0, n + (if a5 = true then 4 else 0), dataBody a0 a1 a2 l) := by
  have e1 := l1Pair_eq (n := a1) (by omega) (by omega)
  have e2 := l1Pair_eq (n := a2) (by omega) (by omega)
  have hw : wrap64 (n + 4) = n + 4 := w64 (by omega) (by omega)
  refine Ev.step (fun k => by simp only [spec_l5Data.j1, l1Pack_eq h0, e1, e2, Option.bind_some, hw]; rfl) ?_
  have t1 : (pack4 a0).length + [a1 / 256 % 256, a1 % 256].length < 140737488355328 := by simp [pack4]
  have t2 : (pack4 a0 ++ [a1 / 256 % 256, a1 % 256]).length + [a2 / 256 % 256, a2 % 256].length < 140737488355328 := by simp [pack4]
  have t3 : (pack4 a0 ++ [a1 / 256 % 256, a1 % 256] ++ [a2 / 256 % 256, a2 % 256]).length + l.length < 140737488355328 := by simp [pack4]; omega
  by_cases h5 : a5 = true
  · simp only [if_pos h5]
    exact Ev.pos t1 (Ev.pos t2 (Ev.pos t3 (Ev.now _)))
  · simp only [if_neg h5, Int.add_zero]
    exact Ev.pos t1 (Ev.pos t2 (Ev.pos t3 (Ev.now _)))
theorem l5Data_ev {a0 a1 a2 : Int} (a3 a4 a5 : Bool) {l : List Int} (h0 : Wd a0) (h1 : 0 ≤ a1 ∧ a1 ≤ 9) (h2 : 0 ≤ a2 ∧ a2 ≤ 65535) (hl : l.length ≤ 100) : Ev (fun k => spec_l5Data.f k a0 a1 a2 a3 a4 a5 l) (0, dataFlags a3 a4 a5, dataBody a0 a1 a2 l) := by
  have hj : ∀ n : Int, 0 ≤ n ∧ n ≤ 1 → Ev (fun k => spec_l5Data.j0 k a0 a1 a2 a3 a4 a5 l 0 n) (0, n + (if a3 = true then 2 else 0) + (if a5 = true then 4 else 0), dataBody a0 a1 a2 l) := by
    intro n hn
    have hw : wrap64 (n + 2) = n + 2 := w64 (by omega) (by omega)
    refine Ev.step (fun k => by simp only [spec_l5Data.j0, hw]; rfl) ?_
    by_cases h3 : a3 = true
    · rw [if_pos h3]; exact Ev.pos h3 (l5Data_j1 a3 a4 a5 h0 h1 h2 hl (n := n + 2) (by omega))
    · rw [if_neg h3, Int.add_zero]; exact Ev.neg h3 (l5Data_j1 a3 a4 a5 h0 h1 h2 hl (n := n) (by omega))
  unfold spec_l5Data.f dataFlags
  by_cases h4 : a4 = true
  · rw [if_pos h4]; exact Ev.pos h4 (hj 1 (by omega))
  · rw [if_neg h4]; exact Ev.neg h4 (hj 0 (by omega))
theorem specPackData_ev (a0 a1 a2 : Int) (a3 a4 a5 : Bool) (l : List Int) : Ev (fun k => spec_PackData.f k a0 a1 a2 a3 a4 a5 l) (dataR a0 a1 a2 a3 a4 a5 l) := by
  unfold spec_PackData.f dataR
  refine Ev.bind (l5DataFault_ev a0 a1 a2 a3 a4 a5 l) ?_
  by_cases h : dataF a0 a1 a2 a5 l = 0
  · rw [if_pos h]
    obtain ⟨h0, h1, h2, h3⟩ := dataF_zero h
    exact Ev.pos h (Ev.bind (l5Data_ev a3 a4 a5 h0 h1 h2 h3) (Ev.now _))
  · rw [if_neg h]
    exact Ev.neg h (Ev.bind (Ev.all fun _ => l5Bad_eq _) (Ev.now _))
theorem flagged_eq (b : Bool) (n : Int) : impl_flagged.f b n = some (if b = true then n else 0) := by unfold impl_flagged.f; cases b <;> rfl
theorem implPackData_j1 {a0 a1 a2 : Int} (a3 a4 a5 : Bool) {l : List Int} (hl : l.length ≤ 100) : Ev (fun k => impl_PackData.j1 k a0 a1 a2 a3 a4 a5 l) (0, 0, dataFlags a3 a4 a5, dataBody a0 a1 a2 l) := by
  have hw : wrap64 ((wrap64 ((if a4 = true then (1 : Int) else 0) + (if a3 = true then 2 else 0))) + (if a5 = true then 4 else 0)) = dataFlags a3 a4 a5 := by cases a3 <;> cases a4 <;> cases a5 <;> (unfold dataFlags wrap64; decide)
  have e : [pack4 a0, [a1 / 256 % 256, a1 % 256], [a2 / 256 % 256, a2 % 256], l].flatten = dataBody a0 a1 a2 l := by
    simp only [List.flatten_cons, List.flatten_nil, List.append_nil, List.append_assoc, dataBody]
  have h := chunk_ev 0 (dataFlags a3 a4 a5) [pack4 a0, [a1 / 256 % 256, a1 % 256], [a2 / 256 % 256, a2 % 256], l] (by simp) (by rw [e, dataBody_len]; omega)
  rw [e] at h
  exact Ev.step (fun k => by simp only [impl_PackData.j1, flagged_eq, four_eq, two_eq, Option.bind_some, hw] <;> rfl) (Ev.bind h (Ev.now _))
theorem implPackData_j0 (a0 a1 a2 : Int) (a3 a4 a5 : Bool) (l : List Int) : Ev (fun k => impl_PackData.j0 k false a0 a1 a2 a3 a4 a5 l) (if 1 ≤ l.length ∧ l.length ≤ 100 then (if a5 = true then (if a2 = 0 then (0, 0, dataFlags a3 a4 a5, dataBody a0 a1 a2 l) else (1, 0, 0, [])) else (0, 0, dataFlags a3 a4 a5, dataBody a0 a1 a2 l)) else (2, 0, 0, [])) := by
  refine Ev.step (fun k => by simp only [impl_PackData.j0, within_eq, Option.bind_some]; rfl) (Ev.neg (by decide) ?_)
  by_cases h1 : 1 ≤ l.length ∧ l.length ≤ 100
  · rw [if_pos h1]
    refine Ev.pos (inB_true.2 (by omega)) ?_
    have hj := implPackData_j1 (a0 := a0) (a1 := a1) (a2 := a2) a3 a4 a5 h1.2
    by_cases h5 : a5 = true
    · rw [if_pos h5]
      refine Ev.pos h5 ?_
      by_cases h2 : a2 = 0
      · rw [if_pos h2]; exact Ev.pos h2 hj
      · rw [if_neg h2]; exact Ev.neg h2 (Ev.now _)
    · rw [if_neg h5]; exact Ev.neg h5 hj
  · rw [if_neg h1]
    exact Ev.neg (fun h => h1 (by have := inB_true.1 h; omega)) (Ev.now _)
theorem implPackData_j0t (a0 a1 a2 : Int) (a3 a4 a5 : Bool) (l : List Int) : Ev (fun k => impl_PackData.j0 k true a0 a1 a2 a3 a4 a5 l) (3, 0, 0, []) := Ev.ret fun k => by simp only [impl_PackData.j0, if_true]
theorem implPackData_ev (a0 a1 a2 : Int) (a3 a4 a5 : Bool) (l : List Int) : Ev (fun k => impl_PackData.f k a0 a1 a2 a3 a4 a5 l) (dataR a0 a1 a2 a3 a4 a5 l) := by
  have hR : dataR a0 a1 a2 a3 a4 a5 l = if isWd a0 = true then (if inB a1 0 9 = true then (if inB a2 0 65535 = true then (if 1 ≤ l.length ∧ l.length ≤ 100 then (if a5 = true then (if a2 = 0 then (0, 0, dataFlags a3 a4 a5, dataBody a0 a1 a2 l) else (1, 0, 0, [])) else (0, 0, dataFlags a3 a4 a5, dataBody a0 a1 a2 l)) else (2, 0, 0, [])) else (3, 0, 0, [])) else (3, 0, 0, [])) else (3, 0, 0, []) := by
    unfold dataR dataF
    by_cases h0 : isWd a0 = true
    · by_cases h1 : inB a1 0 9 = true
      · by_cases h2 : inB a2 0 65535 = true
        · by_cases h3 : 1 ≤ l.length ∧ l.length ≤ 100
          · by_cases h5 : a5 = true
            · by_cases h6 : a2 = 0
              · simp only [if_pos h0, if_pos h1, if_pos h2, if_pos h3, if_pos h5, if_pos h6, if_true]
              · simp only [if_pos h0, if_pos h1, if_pos h2, if_pos h3, if_pos h5, if_neg h6]; rfl
            · simp only [if_pos h0, if_pos h1, if_pos h2, if_pos h3, if_neg h5, if_true]
          · simp only [if_pos h0, if_pos h1, if_pos h2, if_neg h3]; rfl
        · simp only [if_pos h0, if_pos h1, if_neg h2]; rfl
      · simp only [if_pos h0, if_neg h1]; rfl
    · simp only [if_neg h0]; rfl
  rw [hR]
  unfold impl_PackData.f
  simp only [isWord_eq, isStream_eq, isPair_eq, Option.bind_some]
  by_cases h0 : isWd a0 = true
  · rw [if_pos h0]
    refine Ev.pos h0 ?_
    by_cases h1 : inB a1 0 9 = true
    · rw [if_pos h1]
      refine Ev.pos h1 ?_
      by_cases h2 : inB a2 0 65535 = true
      · rw [if_pos h2, h2]; exact implPackData_j0 a0 a1 a2 a3 a4 a5 l
      · rw [if_neg h2, Bool.eq_false_iff.2 h2]; exact implPackData_j0t a0 a1 a2 a3 a4 a5 l
    · rw [if_neg h1]
      exact Ev.neg h1 (implPackData_j0t a0 a1 a2 a3 a4 a5 l)
  · rw [if_neg h0]
    exact Ev.neg h0 (implPackData_j0t a0 a1 a2 a3 a4 a5 l)
theorem szData_big {a b c : Int} {d e f : Bool} {l : List Int} (hl : l.length ≤ 9223372036854775807) {n : Int} (h0 : 0 ≤ n) (h1 : n ≤ 1048576) (h : n < (l.length : Int)) : laws_szData.f a b c d e f l n = some (-1) := by
  unfold laws_szData.f
  rw [szByteS_big hl h0 h1 h]; rfl
theorem szData_ok {a b c : Int} {d e f : Bool} {l : List Int} {n : Int} (h1 : n ≤ 1048576) (h : (l.length : Int) ≤ n) : laws_szData.f a b c d e f l n = some (n - (l.length : Int)) := by
  unfold laws_szData.f
  rw [szByteS_ok h1 h]; simp only [Option.bind_some]
  rw [if_neg (by omega)]
theorem toData_ev (a b c : Int) (d e f : Bool) (l : List Int) (hl : l.length ≤ 281474976710656) : Ev (fun k => laws_toData.f k a b c d e f l) (a, b, c, d, e, f, l) := by
  unfold laws_toData.f
  exact Ev.bind (toByteS_ev l hl) (Ev.now _)
theorem eqData_self (a b c : Int) (d e f : Bool) (l : List Int) (hl : l.length ≤ 4611686018427387904) : Ev (fun k => laws_eqData.f k a b c d e f l a b c d e f l) true := by
  unfold laws_eqData.f
  exact Ev.pos rfl (Ev.pos rfl (Ev.pos rfl (Ev.neg (by simp) (Ev.neg (by simp) (Ev.neg (by simp) (Ev.bind (eqByteS_self l hl) (Ev.pos rfl (Ev.now _))))))))
theorem markData_ev (a b c : Int) (d e f : Bool) (l : List Int) (hl : l.length ≤ 281474976710656) : Ev (fun k => laws_markData.f k a b c d e f l 1) (1 + l.length, mks 1 l.length) := by
  unfold laws_markData.f
  exact Ev.bind (markByteS_ev l hl 1 (by omega) (by omega)) (Ev.now _)
theorem FnExactPackData : laws_FnExactPackData.Pure := by
  intro a0 a1 a2 a3 a4 a5 l _ _ _ hl
  have hr := dataR_len a0 a1 a2 a3 a4 a5 l
  apply Ev.rounds
  unfold laws_FnExactPackData.f
  by_cases hbig : (1048576 : Int) < (l.length : Int)
  · exact Ev.bind (Ev.all fun _ => szData_big hl.1 (by omega) (by omega) hbig) (Ev.pos (by omega) (Ev.now _))
  have g : l.length ≤ 1048576 := by omega
  have hT := toData_ev a0 a1 a2 a3 a4 a5 l (by omega)
  have hI := implPackData_ev a0 a1 a2 a3 a4 a5 l
  refine Ev.bind (Ev.all fun _ => szData_ok (by omega) (by omega)) (Ev.neg (by omega) (Ev.bind hT (Ev.bind (specPackData_ev a0 a1 a2 a3 a4 a5 l) (Ev.bind hT (Ev.bind hI (Ev.bind (eqChunkResult_self _ _ _ _ (by omega)) (Ev.pos rfl ?_)))))))
  refine Ev.bind hT (Ev.bind (eqData_self a0 a1 a2 a3 a4 a5 l (by omega)) (Ev.pos rfl ?_))
  refine Ev.bind (markData_ev a0 a1 a2 a3 a4 a5 l (by omega)) (Ev.neg (by omega) (Ev.bind (eqChunkResult_self _ _ _ _ (by omega)) ?_))
  refine Ev.step (fun k => by simp only [laws_FnExactPackData.j0]; rfl) (Ev.neg (by decide) ?_)
  refine Ev.bind (markChunkResult_ev _ _ _ _ (by omega)) (Ev.bind (heldChunkResult_ev _ _ _ _ (by omega)) (Ev.neg (by omega) (Ev.pos rfl ?_)))
  refine Ev.bind hT (Ev.bind hI (Ev.bind (eqChunkResult_self _ _ _ _ (by omega)) (Ev.pos rfl ?_)))
  exact Ev.bind (heldChunkResult_ev _ _ _ _ (by omega)) (Ev.neg (by omega) (Ev.pos rfl (Ev.now _)))
end FnExactPackData_
theorem FnExactPackData : laws_FnExactPackData.Pure := FnExactPackData_.FnExactPackData
end Go.Proofs.Ytglphklcfpgjbaa.Pure
