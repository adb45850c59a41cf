/- The pure statement of FnExactPackSack: what the printed functions of the program and of the reference compute makes the law answer true, for all arguments (each number of its kind). -/
import Derived.Test.YtacfebnfdmbkaaaPFnExactPackSackx7
import Derived.Test.YtacfebnfdmbkaaaBase
set_option linter.unusedVariables false
set_option linter.unusedSimpArgs false
namespace Go.Proofs.Ytacfebnfdmbkaaa.Pure
open Go.RowKit Go.Proofs.Ytacfebnfdmbkaaa.PFnExactPackSack Go.Proofs.YtacfebnfdmbkaaaW.PrintWords Go.Proofs.YtacfebnfdmbkaaaW.PrintLast Go.Proofs.YtacfebnfdmbkaaaW.PrintMore Go.Proofs.Ytacfebnfdmbkaaa.Base
namespace FnExactPackSack_
theorem l1In_eq (a b c : Int) : spec_l1In.f a b c = some (inB a b c) := ge_le
theorem within_eq (a b c : Int) : impl_within.f a b c = some (inB a b c) := ge_le
theorem l1Word32_eq (a : Int) : spec_l1Word32.f a = some (isWd a) := by
  unfold spec_l1Word32.f; rw [l1In_eq]; rfl
theorem isWord_eq (a : Int) : impl_isWord.f a = some (isWd a) := by
  unfold impl_isWord.f; rw [within_eq]; rfl
theorem eqByteS_l0 (l : List Int) (hl : l.length ≤ 4611686018427387904) (d : Nat) : ∀ i : Nat, i + d = l.length → Ev (fun k => laws_eqByteS.l0 k l l (i : Int)) true := by
  induction d with
  | zero =>
    intro i h
    exact Ev.ret fun k => by simp only [laws_eqByteS.l0]; rw [if_neg (by omega)]
  | succ d ih =>
    intro i h
    refine Ev.step (f := fun k => laws_eqByteS.l0 k l l ((i + 1 : Nat) : Int)) (fun k => ?_) (ih (i + 1) (by omega))
    simp only [laws_eqByteS.l0]
    rw [if_pos (by omega), if_pos (by omega), if_pos (by omega), if_pos (by trivial), w64 (by omega) (by omega)]; rfl
theorem eqByteS_self (l : List Int) (hl : l.length ≤ 4611686018427387904) : Ev (fun k => laws_eqByteS.f k l l) true := by
  unfold laws_eqByteS.f
  simp only [if_true]
  exact eqByteS_l0 l hl l.length 0 (by omega)
theorem l1Pack_eq {w : Int} (hw : Wd w) : spec_l1Pack.f w = some (pack4 w) := by
  obtain ⟨_, _⟩ := hw
  unfold spec_l1Pack.f pack4
  rw [Int.tdiv_eq_ediv_of_nonneg (by omega), Int.tdiv_eq_ediv_of_nonneg (by omega), Int.tdiv_eq_ediv_of_nonneg (by omega), w64 (x := w / 16777216) (by omega) (by omega), w64 (x := w / 65536) (by omega) (by omega), w64 (x := w / 256) (by omega) (by omega), Int.tmod_eq_emod_of_nonneg (by omega), Int.tmod_eq_emod_of_nonneg (by omega), Int.tmod_eq_emod_of_nonneg (by omega)]
  simp only [Int.emod_emod]
theorem four_eq (w : Int) : impl_four.f w = some (pack4 w) := rfl
theorem markByteS_l0 (n : Nat) (hn : n ≤ 281474976710656) (a : Int) (ha : 0 ≤ a) (ha1 : a ≤ 4611686018427387904) (d : Nat) : ∀ (i : Nat) (x : List Int), i + d = n → x.length = n → x.take i = mks a i → Ev (fun k => laws_markByteS.l0 k x (a + i) (i : Int)) (a + n, mks a n) := by
  induction d with
  | zero =>
    intro i x h hx ht
    have e : x = mks a n := by
      rw [show i = n by omega, List.take_of_length_le (by omega)] at ht
      exact ht
    obtain rfl : i = n := by omega
    subst e
    exact Ev.ret fun k => by simp only [laws_markByteS.l0]; rw [if_neg (by rw [mks_length]; omega)]
  | succ d ih =>
    intro i x h hx ht
    have hi : i < x.length := by omega
    refine Ev.step (f := fun k => laws_markByteS.l0 k (x.set i ((a + i) % 256)) (a + ((i + 1 : Nat) : Int)) ((i + 1 : Nat) : Int)) (fun k => ?_) (ih (i + 1) _ (by omega) (by rw [List.length_set]; exact hx) ?_)
    · simp only [laws_markByteS.l0]
      rw [if_pos (by omega), if_pos (by omega), w64 (x := (i : Int) + 1) (by omega) (by omega), w64 (x := a + i + 1) (by omega) (by omega)]
      simp only [Int.toNat_natCast]
      have : a + (i : Int) + 1 = a + ((i + 1 : Nat) : Int) := by omega
      rw [this]; rfl
    · rw [List.take_succ_eq_append_getElem (by rw [List.length_set]; omega), List.getElem_set_self, List.take_set_of_le (by omega), ht, mks_snoc]
theorem markByteS_ev (l : List Int) (hl : l.length ≤ 281474976710656) (a : Int) (ha : 0 ≤ a) (ha1 : a ≤ 4611686018427387904) : Ev (fun k => laws_markByteS.f k l a) (a + l.length, mks a l.length) := by
  have h := markByteS_l0 l.length hl a ha ha1 l.length 0 l (by omega) rfl rfl
  unfold laws_markByteS.f
  simpa only [Int.natCast_zero, Int.add_zero] using h
theorem heldByteS_l0 (n : Nat) (hn : n ≤ 281474976710656) (a : Int) (ha : 0 ≤ a) (ha1 : a ≤ 4611686018427387904) (d : Nat) : ∀ (i : Nat), i + d = n → Ev (fun k => laws_heldByteS.l0 k (mks a n) (a + i) (i : Int)) (a + n) := by
  induction d with
  | zero =>
    intro i h
    obtain rfl : i = n := by omega
    exact Ev.ret fun k => by simp only [laws_heldByteS.l0]; rw [if_neg (by rw [mks_length]; omega)]
  | succ d ih =>
    intro i h
    refine Ev.step (f := fun k => laws_heldByteS.l0 k (mks a n) (a + ((i + 1 : Nat) : Int)) ((i + 1 : Nat) : Int)) (fun k => ?_) (ih (i + 1) (by omega))
    simp only [laws_heldByteS.l0]
    rw [if_pos (by rw [mks_length]; omega), if_pos (by omega), rd_nat _ i (by rw [mks_length]; omega), mks_get a n i (by omega), if_pos rfl, w64 (x := (i : Int) + 1) (by omega) (by omega), w64 (x := a + i + 1) (by omega) (by omega)]
    have : a + (i : Int) + 1 = a + ((i + 1 : Nat) : Int) := by omega
    rw [this]; rfl
theorem heldByteS_ev (n : Nat) (hn : n ≤ 281474976710656) (a : Int) (ha : 0 ≤ a) (ha1 : a ≤ 4611686018427387904) : Ev (fun k => laws_heldByteS.f k (mks a n) a) (a + n) := by
  have h := heldByteS_l0 n hn a ha ha1 n 0 (by omega)
  unfold laws_heldByteS.f
  simpa only [Int.natCast_zero, Int.add_zero] using h
theorem blk_len {p : List Int} {m n : Nat} (hp : p.length = 64 * m) (hn : n < m) : ((p.take (64 * n + 64)).drop (64 * n)).length = 64 := by
  rw [List.length_drop, List.length_take]; omega
theorem blk_ifs {n m : Nat} (hm : m ≤ 1000) (hn : n < m) : ((64 * n : Nat) : Int) < ((64 * m : Nat) : Int) ∧ 0 ≤ ((64 * n : Nat) : Int) ∧ ((64 * n : Nat) : Int) ≤ ((64 * n + 64 : Nat) : Int) ∧ ((64 * n + 64 : Nat) : Int) ≤ ((64 * m : Nat) : Int) ∧ wrap64 (((64 * n : Nat) : Int) + 64) = ((64 * n + 64 : Nat) : Int) := by
  refine ⟨by omega, by omega, by omega, by omega, ?_⟩
  rw [w64 (by omega) (by omega)]; omega
theorem padded_64 (l : List Int) : (padded l).length = 64 * ((padded l).length / 64) := by
  rw [padded_length]; unfold zerosFor; omega
theorem padded_few {l : List Int} (h : l.length ≤ 700) : (padded l).length / 64 ≤ 1000 := by
  rw [padded_length]; unfold zerosFor; omega
theorem eqChunk_self (a b : Int) (l : List Int) (hl : l.length ≤ 4611686018427387904) : Ev (fun k => laws_eqChunk.f k a b l a b l) true := by
  unfold laws_eqChunk.f
  exact Ev.pos rfl (Ev.pos rfl (Ev.bind (eqByteS_self l hl) (Ev.pos rfl (Ev.now _))))
theorem l1Pair_eq {n : Int} (h0 : 0 ≤ n) (h1 : n ≤ 4294967295) : spec_l1Pair.f n = some [n / 256 % 256, n % 256] := by
  unfold spec_l1Pair.f
  rw [Int.tdiv_eq_ediv_of_nonneg h0, w64 (by omega) (by omega), Int.tmod_eq_emod_of_nonneg h0, Int.emod_emod]
theorem markChunk_ev (a b : Int) (l : List Int) (hl : l.length ≤ 281474976710656) : Ev (fun k => laws_markChunk.f k a b l 1) (1 + l.length, mks 1 l.length) := by
  unfold laws_markChunk.f
  exact Ev.bind (markByteS_ev l hl 1 (by omega) (by omega)) (Ev.now _)
theorem Grow_eq {n : Int} (h0 : 0 ≤ n) (h1 : n ≤ 1000000) : slices_Grow_byte_byte.f [] n = some [] := by
  unfold slices_Grow_byte_byte.f
  rw [if_pos h0, if_pos (by omega)]
def sumLen (xs : List (List Int)) : Nat := xs.flatten.length
theorem rdL1 (xs : List (List Int)) (i : Nat) (h : i < xs.length) : rd_L4 xs (i : Int) = xs[i] := by
  unfold rd_L4; rw [Int.toNat_natCast, List.getD_eq_getElem?_getD, List.getElem?_eq_getElem h]; rfl
theorem Concat_l1 (x0 xs : List (List Int)) (hn : xs.length ≤ 1000) (hs : xs.flatten.length ≤ 1000000) (d : Nat) : ∀ (i : Nat) (acc : List Int), i + d = xs.length → acc.length + ((xs.drop i).flatten).length ≤ 1000000 → Ev (fun k => slices_Concat_byte_byte.l1 k acc xs (xs.length : Int) (i : Int)) (acc ++ (xs.drop i).flatten) := by
  induction d with
  | zero =>
    intro i acc h ha
    refine Ev.ret fun k => ?_
    simp only [slices_Concat_byte_byte.l1]
    rw [if_neg (by omega), List.drop_of_length_le (by omega)]
    simp
  | succ d ih =>
    intro i acc h ha
    have hi : i < xs.length := by omega
    have hr : rd_L4 xs (i : Int) = xs[i] := rdL1 xs i hi
    have hw : wrap64 ((i : Int) + 1) = ((i + 1 : Nat) : Int) := w64_succ (by omega)
    have e : (xs.drop i).flatten = xs[i] ++ (xs.drop (i + 1)).flatten := by rw [drop_cons xs i hi, List.flatten_cons]
    have hl : (xs.drop i).flatten.length = xs[i].length + (xs.drop (i + 1)).flatten.length := by rw [e, List.length_append]
    rw [e, ← List.append_assoc]
    refine Ev.step (fun k => by simp only [slices_Concat_byte_byte.l1, hr, hw]; rfl) ?_
    exact Ev.pos (by omega) (Ev.pos (by omega) (Ev.pos (by omega) (Ev.pos (by omega) (ih (i + 1) (acc ++ xs[i]) (by omega) (by rw [List.length_append]; omega)))))
theorem Concat_l0 (xs : List (List Int)) (hn : xs.length ≤ 1000) (hs : xs.flatten.length ≤ 1000000) (d : Nat) : ∀ (i s : Nat), i + d = xs.length → s + ((xs.drop i).flatten).length ≤ 1000000 → Ev (fun k => slices_Concat_byte_byte.l0 k xs (s : Int) xs (xs.length : Int) (i : Int)) xs.flatten := by
  induction d with
  | zero =>
    intro i s h ha
    have h1 := Concat_l1 xs xs hn hs xs.length 0 [] (by omega) (by simpa using hs)
    simp only [List.drop_zero, List.nil_append] at h1
    refine Ev.step (fun k => by simp only [slices_Concat_byte_byte.l0, Grow_eq (n := (s : Int)) (by omega) (by omega), Option.bind_some]; rfl) (Ev.neg (by omega) h1)
  | succ d ih =>
    intro i s h ha
    have hi : i < xs.length := by omega
    have hr : rd_L4 xs (i : Int) = xs[i] := rdL1 xs i hi
    have hw : wrap64 ((i : Int) + 1) = ((i + 1 : Nat) : Int) := w64_succ (by omega)
    have hl : (xs.drop i).flatten.length = xs[i].length + (xs.drop (i + 1)).flatten.length := by rw [drop_cons xs i hi, List.flatten_cons, List.length_append]
    have hv : wrap64 ((s : Int) + (xs[i].length : Int)) = ((s + xs[i].length : Nat) : Int) := by rw [w64 (by omega) (by omega)]; omega
    refine Ev.step (fun k => by simp only [slices_Concat_byte_byte.l0, hr, hw, hv]; rfl) ?_
    exact Ev.pos (by omega) (Ev.pos (by omega) (Ev.pos (by omega) (Ev.neg (by omega) (ih (i + 1) (s + xs[i].length) (by omega) (by omega)))))
theorem Concat_ev (xs : List (List Int)) (hn : xs.length ≤ 1000) (hs : xs.flatten.length ≤ 1000000) : Ev (fun k => slices_Concat_byte_byte.f k xs) xs.flatten := by
  have h := Concat_l0 xs hn hs xs.length 0 0 (by omega) (by simpa using hs)
  unfold slices_Concat_byte_byte.f
  exact h
theorem chunk_ev (a b : Int) (xs : List (List Int)) (hn : xs.length ≤ 1000) (hs : xs.flatten.length ≤ 1000000) : Ev (fun k => impl_chunk.f k a b xs) (0, a, b, xs.flatten) := by
  unfold impl_chunk.f
  exact Ev.bind (Concat_ev xs hn hs) (Ev.now _)
theorem two_eq (n : Int) : impl_two.f n = some [n / 256 % 256, n % 256] := rfl
theorem l5Bad_eq (c : Int) : spec_l5Bad.f c = some (c, 0, 0, []) := rfl
theorem eqChunkResult_self (c a b : Int) (l : List Int) (hl : l.length ≤ 4611686018427387904) : Ev (fun k => laws_eqChunkResult.f k c a b l c a b l) true := by
  unfold laws_eqChunkResult.f
  exact Ev.pos rfl (Ev.bind (eqChunk_self a b l hl) (Ev.pos rfl (Ev.now _)))
theorem markChunkResult_ev (c a b : Int) (l : List Int) (hl : l.length ≤ 281474976710656) : Ev (fun k => laws_markChunkResult.f k c a b l 1) (1 + l.length, mks 1 l.length) := by
  unfold laws_markChunkResult.f
  exact Ev.bind (markChunk_ev a b l hl) (Ev.now _)
theorem heldChunk_ev (a b : Int) (n : Nat) (hn : n ≤ 281474976710656) : Ev (fun k => laws_heldChunk.f k a b (mks 1 n) 1) (1 + n) := by
  unfold laws_heldChunk.f
  exact Ev.bind (heldByteS_ev n hn 1 (by omega) (by omega)) (Ev.neg (by omega) (Ev.now _))
theorem heldChunkResult_ev (c a b : Int) (n : Nat) (hn : n ≤ 281474976710656) : Ev (fun k => laws_heldChunkResult.f k c a b (mks 1 n) 1) (1 + n) := by
  unfold laws_heldChunkResult.f
  exact Ev.bind (heldChunk_ev a b n hn) (Ev.neg (by omega) (Ev.now _))
theorem rdLGap (xs : List S175) (i : Nat) (h : i < xs.length) : rd_T175 xs (i : Int) = xs[i] := by
  unfold rd_T175; rw [Int.toNat_natCast, List.getD_eq_getElem?_getD, List.getElem?_eq_getElem h]; rfl
theorem rdIGap (xs : List S152) (i : Nat) (h : i < xs.length) : rd_T152 xs (i : Int) = xs[i] := by
  unfold rd_T152; rw [Int.toNat_natCast, List.getD_eq_getElem?_getD, List.getElem?_eq_getElem h]; rfl
def toIGap (c : S175) : S152 := ⟨c.f0, c.f1⟩
theorem szGapS_big {l : List S175} (hl : l.length ≤ 9223372036854775807) {a : Int} (h0 : 0 ≤ a) (h1 : a ≤ 1048576) (h : a < (l.length : Int)) : laws_szGapS.f l a = some (-1) := by
  unfold laws_szGapS.f
  rw [w64 (by omega) (by omega), if_pos (by omega)]
theorem szGapS_ok {l : List S175} {a : Int} (h1 : a ≤ 1048576) (h : (l.length : Int) ≤ a) : laws_szGapS.f l a = some (a - (l.length : Int)) := by
  unfold laws_szGapS.f
  rw [w64 (by omega) (by omega), if_neg (by omega)]
theorem toGapS_l0 (l : List S175) (hn : l.length ≤ 1048576) (d : Nat) : ∀ (i : Nat) (x : List S152), i + d = l.length → x.length = l.length → x.take i = (l.map toIGap).take i → Ev (fun k => laws_toGapS.l0 k l x (i : Int)) (l.map toIGap) := by
  induction d with
  | zero =>
    intro i x h hxl ht
    rw [List.take_of_length_le (by omega), List.take_of_length_le (by rw [List.length_map]; omega)] at ht
    subst ht
    exact Ev.ret fun k => by simp only [laws_toGapS.l0]; rw [if_neg (by omega)]
  | succ d ih =>
    intro i x h hxl ht
    have hi : i < l.length := by omega
    have him : i < (l.map toIGap).length := by rw [List.length_map]; exact hi
    have hr : rd_T175 l (i : Int) = l[i] := rdLGap l i hi
    have hw : wrap64 ((i : Int) + 1) = ((i + 1 : Nat) : Int) := w64_succ (by omega)
    have hv : (l.map toIGap)[i] = (⟨l[i].f0, l[i].f1⟩ : S152) := by rw [List.getElem_map]; rfl
    have hs := take_set_succ x (l.map toIGap) i (by omega) him ht
    rw [hv] at hs
    have h2 := ih (i + 1) (x.set i (⟨l[i].f0, l[i].f1⟩ : S152)) (by omega) (by rw [List.length_set]; exact hxl) hs
    refine Ev.step (fun k => by simp only [laws_toGapS.l0, laws_toGap.f, Option.bind_some, hr, hw, Int.toNat_natCast]; rfl) ?_
    exact Ev.pos (by omega) (Ev.pos (by omega) (Ev.pos (by omega) h2))
theorem toGapS_ev (l : List S175) (hn : l.length ≤ 1048576) : Ev (fun k => laws_toGapS.f k l) (l.map toIGap) := by
  have h := toGapS_l0 l hn l.length 0 (List.replicate l.length z152) (by omega) (by simp) (by simp)
  unfold laws_toGapS.f
  simp only [Int.toNat_natCast]
  exact Ev.pos (by omega) (Ev.pos (by omega) h)
theorem eqGapS_l0 (l : List S152) (hn : l.length ≤ 1048576) (d : Nat) : ∀ (i : Nat), i + d = l.length → Ev (fun k => laws_eqGapS.l0 k l l (i : Int)) true := by
  induction d with
  | zero =>
    intro i h
    exact Ev.ret fun k => by simp only [laws_eqGapS.l0]; rw [if_neg (by omega)]
  | succ d ih =>
    intro i h
    have hi : i < l.length := by omega
    have hr : rd_T152 l (i : Int) = l[i] := rdIGap l i hi
    have hw : wrap64 ((i : Int) + 1) = ((i + 1 : Nat) : Int) := w64_succ (by omega)
    have he : laws_eqGap.f l[i].f0 l[i].f1 l[i].f0 l[i].f1 = some true := by unfold laws_eqGap.f; rw [if_pos rfl, if_pos rfl]
    refine Ev.step (fun k => by simp only [laws_eqGapS.l0, hr, hw, he, Option.bind_some, if_true]; rfl) ?_
    exact Ev.pos (by omega) (Ev.pos (by omega) (Ev.pos (by omega) (ih (i + 1) (by omega))))
theorem eqGapS_self (l : List S152) (hn : l.length ≤ 1048576) : Ev (fun k => laws_eqGapS.f k l l) true := by
  unfold laws_eqGapS.f
  exact Ev.pos rfl (eqGapS_l0 l hn l.length 0 (by omega))
theorem markGapS_l0 (d : Nat) : ∀ (i : Nat) (x : List S152) (a : Int), i + d = x.length → x.length ≤ 1048576 → 0 ≤ a → a ≤ 10 + 2 * (i : Int) → ∃ v y, Ev (fun k => laws_markGapS.l0 k x a (i : Int)) (v, y) ∧ 0 ≤ v := by
  induction d with
  | zero =>
    intro i x a h hx h0 h1
    exact ⟨a, x, Ev.ret fun k => by simp only [laws_markGapS.l0]; rw [if_neg (by omega)], h0⟩
  | succ d ih =>
    intro i x a h hx h0 h1
    have hw : wrap64 ((i : Int) + 1) = ((i + 1 : Nat) : Int) := w64_succ (by omega)
    have w1 : wrap64 (a + 1) = a + 1 := w64 (by omega) (by omega)
    have w2 : wrap64 (a + 1 + 1) = a + 2 := by rw [w64 (by omega) (by omega)]; omega
    have hx1 : ((x.set i (⟨a, (rd_T152 x (i : Int)).f1⟩ : S152)).set i (⟨(rd_T152 (x.set i (⟨a, (rd_T152 x (i : Int)).f1⟩ : S152)) (i : Int)).f0, a + 1⟩ : S152)).length = x.length := by rw [List.length_set, List.length_set]
    obtain ⟨v, y, h2, h3⟩ := ih (i + 1) ((x.set i (⟨a, (rd_T152 x (i : Int)).f1⟩ : S152)).set i (⟨(rd_T152 (x.set i (⟨a, (rd_T152 x (i : Int)).f1⟩ : S152)) (i : Int)).f0, a + 1⟩ : S152)) (a + 2) (by rw [hx1]; omega) (by rw [hx1]; exact hx) (by omega) (by omega)
    exact ⟨v, y, Ev.step (fun k => by simp only [laws_markGapS.l0, Option.bind_some, hw, w1, w2, Int.toNat_natCast]; rfl) (Ev.pos (by omega) (Ev.pos (by omega) h2)), h3⟩
theorem markGapS_ev (l : List S152) (hn : l.length ≤ 1048576) : ∃ v y, Ev (fun k => laws_markGapS.f k l 1) (v, y) ∧ 0 ≤ v := by
  unfold laws_markGapS.f
  exact markGapS_l0 l.length 0 l 1 (by omega) hn (by omega) (by omega)
def gapsF (i : Nat) (last : Int) : List S152 → Int
  | [] => 0
  | g :: t => if g.f0 < 2 then 1 else (if g.f1 < g.f0 then 1 else (if g.f1 > 65535 then 1 else (if 0 < i then (if g.f0 ≤ last + 1 then 1 else gapsF (i + 1) g.f1 t) else gapsF (i + 1) g.f1 t)))
theorem gapsF_zero {l : List S152} : ∀ {i : Nat} {last : Int}, gapsF i last l = 0 → ∀ g ∈ l, 2 ≤ g.f0 ∧ g.f0 ≤ g.f1 ∧ g.f1 ≤ 65535 := by
  induction l with
  | nil => intro i last _ g hg; cases hg
  | cons x t ih =>
    intro i last h g hg
    unfold gapsF at h
    by_cases h0 : x.f0 < 2
    · rw [if_pos h0] at h; exact absurd h (by decide)
    · rw [if_neg h0] at h
      by_cases h1 : x.f1 < x.f0
      · rw [if_pos h1] at h; exact absurd h (by decide)
      · rw [if_neg h1] at h
        by_cases h2 : x.f1 > 65535
        · rw [if_pos h2] at h; exact absurd h (by decide)
        · rw [if_neg h2] at h
          have ht : gapsF (i + 1) x.f1 t = 0 := by
            by_cases h3 : 0 < i
            · rw [if_pos h3] at h
              by_cases h4 : x.f0 ≤ last + 1
              · rw [if_pos h4] at h; exact absurd h (by decide)
              · rw [if_neg h4] at h; exact h
            · rw [if_neg h3] at h; exact h
          rcases List.mem_cons.1 hg with rfl | hg
          · exact ⟨by omega, by omega, by omega⟩
          · exact ih ht g hg
def gapB (c : S152) : List Int := [c.f0 / 256 % 256, c.f0 % 256] ++ [c.f1 / 256 % 256, c.f1 % 256]
def sackF (a : Int) (l : List S152) : Int := if isWd a = true then (if l.length > 20 then 2 else gapsF 0 0 l) else 3
def sackBody (a : Int) (l : List S152) : List Int := pack4 a ++ [(l.length : Int) % 256] ++ (l.map gapB).flatten
def sackR (a : Int) (l : List S152) : Int × Int × Int × List Int := if sackF a l = 0 then (0, 3, 0, sackBody a l) else (sackF a l, 0, 0, [])
theorem gapB_len (l : List S152) : ((l.map gapB).flatten).length = 4 * l.length := by
  induction l with
  | nil => rfl
  | cons x t ih => rw [List.map_cons, List.flatten_cons, List.length_append, ih, List.length_cons]; simp [gapB]; omega
theorem sackBody_len (a : Int) (l : List S152) : (sackBody a l).length = 5 + 4 * l.length := by
  unfold sackBody; rw [List.length_append, gapB_len]; simp [pack4]
theorem sackF_zero {a : Int} {l : List S152} (h : sackF a l = 0) : Wd a ∧ l.length ≤ 20 ∧ ∀ g ∈ l, 2 ≤ g.f0 ∧ g.f0 ≤ g.f1 ∧ g.f1 ≤ 65535 := by
  unfold sackF at h
  by_cases h0 : isWd a = true
  · rw [if_pos h0] at h
    by_cases h1 : l.length > 20
    · rw [if_pos h1] at h; exact absurd h (by decide)
    · rw [if_neg h1] at h; exact ⟨isWd_true.1 h0, by omega, gapsF_zero h⟩
  · rw [if_neg h0] at h; exact absurd h (by decide)
theorem sackR_len (a : Int) (l : List S152) : (sackR a l).2.2.2.length ≤ 85 := by
  unfold sackR
  by_cases h : sackF a l = 0
  · rw [if_pos h]; have := (sackF_zero h).2.1; show (sackBody a l).length ≤ 85; rw [sackBody_len]; omega
  · rw [if_neg h]; exact Nat.zero_le _
theorem sackFault_l0 (a : Int) (l : List S152) (hl : l.length ≤ 1000) (d : Nat) : ∀ (i : Nat) (last : Int), i + d = l.length → 0 ≤ last → last ≤ 65535 → Ev (fun k => spec_l5SackFault.l0 k last (i : Int) a l) (gapsF i last (l.drop i)) := by
  induction d with
  | zero =>
    intro i last h _ _
    refine Ev.ret fun k => ?_
    simp only [spec_l5SackFault.l0]
    rw [if_neg (by omega), List.drop_of_length_le (by omega)]; rfl
  | succ d ih =>
    intro i last h hl0 hl1
    have hi : i < l.length := by omega
    have hr : rd_T152 l (i : Int) = l[i] := rdIGap l i hi
    have hw : wrap64 ((i : Int) + 1) = ((i + 1 : Nat) : Int) := w64_succ (by omega)
    have hq : wrap64 (last + 1) = last + 1 := w64 (by omega) (by omega)
    rw [drop_cons l i hi]
    refine Ev.step (fun k => by simp only [spec_l5SackFault.l0, hr, hw, hq]; rfl) (Ev.pos (by omega) (Ev.pos (by omega) ?_))
    unfold gapsF
    by_cases h0 : l[i].f0 < 2
    · rw [if_pos h0]; exact Ev.pos h0 (Ev.now _)
    rw [if_neg h0]; refine Ev.neg h0 ?_
    by_cases h1 : l[i].f1 < l[i].f0
    · rw [if_pos h1]; exact Ev.pos h1 (Ev.now _)
    rw [if_neg h1]; refine Ev.neg h1 ?_
    by_cases h2 : l[i].f1 > 65535
    · rw [if_pos h2]; exact Ev.pos h2 (Ev.now _)
    rw [if_neg h2]; refine Ev.neg h2 ?_
    have hn := ih (i + 1) l[i].f1 (by omega) (by omega) (by omega)
    by_cases h3 : 0 < i
    · rw [if_pos h3]
      refine Ev.pos (by omega) ?_
      by_cases h4 : l[i].f0 ≤ last + 1
      · rw [if_pos h4]; exact Ev.pos h4 (Ev.now _)
      · rw [if_neg h4]; exact Ev.neg h4 hn
    · rw [if_neg h3]
      exact Ev.neg (by omega) hn
theorem sackFault_ev (a : Int) (l : List S152) : Ev (fun k => spec_l5SackFault.f k a l) (sackF a l) := by
  unfold spec_l5SackFault.f sackF
  simp only [l1Word32_eq, Option.bind_some]
  by_cases h0 : isWd a = true
  · rw [if_pos h0]
    refine Ev.pos h0 ?_
    by_cases h1 : l.length > 20
    · rw [if_pos h1]; exact Ev.pos (by omega) (Ev.now _)
    · rw [if_neg h1]; exact Ev.neg (by omega) (sackFault_l0 a l (by omega) l.length 0 0 (by omega) (by omega) (by omega))
  · rw [if_neg h0]
    exact Ev.neg h0 (Ev.now _)
theorem l5Sack_l0 (a : Int) (l : List S152) (hl : l.length ≤ 1000) (hg : ∀ g ∈ l, 2 ≤ g.f0 ∧ g.f0 ≤ g.f1 ∧ g.f1 ≤ 65535) (d : Nat) : ∀ (i : Nat) (acc : List Int), i + d = l.length → acc.length ≤ 10 + 4 * i → Ev (fun k => spec_l5Sack.l0 k (i : Int) a l 3 0 acc) (3, 0, acc ++ ((l.drop i).map gapB).flatten) := by
  induction d with
  | zero =>
    intro i acc h ha
    refine Ev.ret fun k => ?_
    simp only [spec_l5Sack.l0]
    rw [if_neg (by omega), List.drop_of_length_le (by omega), List.map_nil, List.flatten_nil, List.append_nil]
  | succ d ih =>
    intro i acc h ha
    have hi : i < l.length := by omega
    have hb := hg _ (List.getElem_mem hi)
    have hr : rd_T152 l (i : Int) = l[i] := rdIGap l i hi
    have hw : wrap64 ((i : Int) + 1) = ((i + 1 : Nat) : Int) := w64_succ (by omega)
    have e1 := l1Pair_eq (n := l[i].f0) (by omega) (by omega)
    have e2 := l1Pair_eq (n := l[i].f1) (by omega) (by omega)
    have e : acc ++ ((l.drop i).map gapB).flatten = (acc ++ [l[i].f0 / 256 % 256, l[i].f0 % 256] ++ [l[i].f1 / 256 % 256, l[i].f1 % 256]) ++ ((l.drop (i + 1)).map gapB).flatten := by
      rw [drop_cons l i hi, List.map_cons, List.flatten_cons]; simp [gapB]
    rw [e]
    refine Ev.step (fun k => by simp only [spec_l5Sack.l0, hr, hw, e1, e2, Option.bind_some]; rfl) ?_
    exact Ev.pos (by omega) (Ev.pos (by omega) (Ev.pos (by simp; omega) (Ev.pos (by simp; omega) (ih (i + 1) (acc ++ [l[i].f0 / 256 % 256, l[i].f0 % 256] ++ [l[i].f1 / 256 % 256, l[i].f1 % 256]) (by omega) (by simp; omega)))))
theorem specPackSack_ev (a : Int) (l : List S152) : Ev (fun k => spec_PackSack.f k a l) (sackR a l) := by
  unfold spec_PackSack.f sackR
  refine Ev.bind (sackFault_ev a l) ?_
  by_cases h : sackF a l = 0
  · rw [if_pos h]
    obtain ⟨h0, h1, h2⟩ := sackF_zero h
    refine Ev.pos h (Ev.bind (a := (3, 0, sackBody a l)) ?_ (Ev.now _))
    unfold spec_l5Sack.f
    rw [l1Pack_eq h0]
    simp only [Option.bind_some]
    exact Ev.pos (by simp [pack4]) (l5Sack_l0 a l (by omega) h2 l.length 0 (pack4 a ++ [(l.length : Int) % 256]) (by omega) (by simp [pack4]))
  · rw [if_neg h]
    exact Ev.neg h (Ev.bind (Ev.all fun _ => l5Bad_eq _) (Ev.now _))
theorem gapsCode_l0 (l : List S152) (hl : l.length ≤ 1000) (d : Nat) : ∀ (i : Nat) (last : Int), i + d = l.length → 0 ≤ last → last ≤ 65535 → (∀ (h : 0 < i) (h2 : i - 1 < l.length), l[i - 1].f1 = last) → Ev (fun k => impl_gapsCode.l0 k l l (l.length : Int) (i : Int)) (gapsF i last (l.drop i)) := by
  induction d with
  | zero =>
    intro i last h _ _ _
    refine Ev.ret fun k => ?_
    simp only [impl_gapsCode.l0]
    rw [if_neg (by omega), List.drop_of_length_le (by omega)]; rfl
  | succ d ih =>
    intro i last h hl0 hl1 hp
    have hi : i < l.length := by omega
    have hr : rd_T152 l (i : Int) = l[i] := rdIGap l i hi
    have hw : wrap64 ((i : Int) + 1) = ((i + 1 : Nat) : Int) := w64_succ (by omega)
    have hm : wrap64 ((i : Int) - 1) = (i : Int) - 1 := w64 (by omega) (by omega)
    rw [drop_cons l i hi]
    refine Ev.step (fun k => by simp only [impl_gapsCode.l0, hr, hw, hm]; rfl) (Ev.pos (by omega) (Ev.pos (by omega) (Ev.pos (by omega) ?_)))
    unfold gapsF
    by_cases h0 : l[i].f0 < 2
    · rw [if_pos h0]; exact Ev.pos h0 (Ev.now _)
    rw [if_neg h0]; refine Ev.neg h0 ?_
    by_cases h1 : l[i].f1 < l[i].f0
    · rw [if_pos h1]; exact Ev.pos h1 (Ev.now _)
    rw [if_neg h1]; refine Ev.neg h1 ?_
    by_cases h2 : l[i].f1 > 65535
    · rw [if_pos h2]; exact Ev.pos h2 (Ev.now _)
    rw [if_neg h2]; refine Ev.neg h2 ?_
    have hn := ih (i + 1) l[i].f1 (by omega) (by omega) (by omega) (fun _ _ => rfl)
    by_cases h3 : 0 < i
    · rw [if_pos h3]
      have hr2 : rd_T152 l ((i : Int) - 1) = l[i - 1] := by
        have := rdIGap l (i - 1) (by omega)
        rw [show ((i - 1 : Nat) : Int) = (i : Int) - 1 by omega] at this
        exact this
      have hl2 := hp h3 (by omega)
      have hq : wrap64 (last + 1) = last + 1 := w64 (by omega) (by omega)
      rw [hr2, hl2, hq]
      refine Ev.pos (by omega) (Ev.pos (by omega) (Ev.pos (by omega) ?_))
      by_cases h4 : l[i].f0 ≤ last + 1
      · rw [if_pos h4]; exact Ev.pos h4 (Ev.now _)
      · rw [if_neg h4]; exact Ev.neg h4 hn
    · rw [if_neg h3]
      exact Ev.neg (by omega) hn
theorem implSack_l0 (l : List S152) (hl : l.length ≤ 1000) (d : Nat) : ∀ (i : Nat) (acc : List Int), i + d = l.length → acc.length ≤ 10 + 4 * i → Ev (fun k => impl_PackSack.l0 k acc l (l.length : Int) (i : Int)) (0, 3, 0, acc ++ ((l.drop i).map gapB).flatten) := by
  induction d with
  | zero =>
    intro i acc h ha
    have hc := chunk_ev 3 0 [acc] (by simp) (by simp; omega)
    rw [List.flatten_cons, List.flatten_nil, List.append_nil] at hc
    rw [List.drop_of_length_le (by omega), List.map_nil, List.flatten_nil, List.append_nil]
    exact Ev.step (fun k => by simp only [impl_PackSack.l0]; rfl) (Ev.neg (by omega) (Ev.bind hc (Ev.now _)))
  | succ d ih =>
    intro i acc h ha
    have hi : i < l.length := by omega
    have hr : rd_T152 l (i : Int) = l[i] := rdIGap l i hi
    have hw : wrap64 ((i : Int) + 1) = ((i + 1 : Nat) : Int) := w64_succ (by omega)
    have ef : [acc, [l[i].f0 / 256 % 256, l[i].f0 % 256], [l[i].f1 / 256 % 256, l[i].f1 % 256]].flatten = acc ++ [l[i].f0 / 256 % 256, l[i].f0 % 256] ++ [l[i].f1 / 256 % 256, l[i].f1 % 256] := by simp
    have hc := Concat_ev [acc, [l[i].f0 / 256 % 256, l[i].f0 % 256], [l[i].f1 / 256 % 256, l[i].f1 % 256]] (by simp) (by rw [ef]; simp; omega)
    rw [ef] at hc
    have e : acc ++ ((l.drop i).map gapB).flatten = (acc ++ [l[i].f0 / 256 % 256, l[i].f0 % 256] ++ [l[i].f1 / 256 % 256, l[i].f1 % 256]) ++ ((l.drop (i + 1)).map gapB).flatten := by
      rw [drop_cons l i hi, List.map_cons, List.flatten_cons]; simp [gapB]
    rw [e]
    refine Ev.step (fun k => by simp only [impl_PackSack.l0, hr, hw, two_eq, Option.bind_some]; rfl) ?_
    exact Ev.pos (by omega) (Ev.pos (by omega) (Ev.pos (by omega) (Ev.bind hc (ih (i + 1) (acc ++ [l[i].f0 / 256 % 256, l[i].f0 % 256] ++ [l[i].f1 / 256 % 256, l[i].f1 % 256]) (by omega) (by simp; omega)))))
theorem implPackSack_ev (a : Int) (l : List S152) : Ev (fun k => impl_PackSack.f k a l) (sackR a l) := by
  have hG : Ev (fun k => impl_gapsCode.f k l) (if l.length > 20 then 2 else gapsF 0 0 l) := by
    unfold impl_gapsCode.f
    by_cases h1 : l.length > 20
    · rw [if_pos h1]; exact Ev.pos (by omega) (Ev.now _)
    · rw [if_neg h1]; exact Ev.neg (by omega) (gapsCode_l0 l (by omega) l.length 0 0 (by omega) (by omega) (by omega) (fun h => absurd h (by omega)))
  unfold impl_PackSack.f sackR
  simp only [isWord_eq, Option.bind_some, four_eq]
  by_cases h0 : isWd a = true
  · have hF : sackF a l = (if l.length > 20 then 2 else gapsF 0 0 l) := by unfold sackF; rw [if_pos h0]
    rw [← hF] at hG
    refine Ev.pos h0 (Ev.bind hG ?_)
    by_cases h : sackF a l = 0
    · rw [if_pos h]
      obtain ⟨_, h1, h2⟩ := sackF_zero h
      exact Ev.pos h (Ev.pos (by simp [pack4]) (implSack_l0 l (by omega) l.length 0 (pack4 a ++ [(l.length : Int) % 256]) (by omega) (by simp [pack4])))
    · rw [if_neg h]
      exact Ev.neg h (Ev.now _)
  · have hF : sackF a l = 3 := by unfold sackF; rw [if_neg h0]
    rw [hF, if_neg (by decide)]
    exact Ev.neg h0 (Ev.now _)
theorem szSack_big {a : Int} {l : List S175} (hl : l.length ≤ 9223372036854775807) {n : Int} (h0 : 0 ≤ n) (h1 : n ≤ 1048576) (h : n < (l.length : Int)) : laws_szSack.f a l n = some (-1) := by
  unfold laws_szSack.f
  rw [szGapS_big hl h0 h1 h]; rfl
theorem szSack_ok {a : Int} {l : List S175} {n : Int} (h1 : n ≤ 1048576) (h : (l.length : Int) ≤ n) : laws_szSack.f a l n = some (n - (l.length : Int)) := by
  unfold laws_szSack.f
  rw [szGapS_ok h1 h]; simp only [Option.bind_some]
  rw [if_neg (by omega)]
theorem toSack_ev (a : Int) (l : List S175) (hl : l.length ≤ 1048576) : Ev (fun k => laws_toSack.f k a l) (a, l.map toIGap) := by
  unfold laws_toSack.f
  exact Ev.bind (toGapS_ev l hl) (Ev.now _)
theorem eqSack_self (a : Int) (l : List S152) (hl : l.length ≤ 1048576) : Ev (fun k => laws_eqSack.f k a l a l) true := by
  unfold laws_eqSack.f
  exact Ev.pos rfl (Ev.bind (eqGapS_self l hl) (Ev.pos rfl (Ev.now _)))
theorem markSack_ev (a : Int) (l : List S152) (hl : l.length ≤ 1048576) : ∃ v y, Ev (fun k => laws_markSack.f k a l 1) (v, y) ∧ 0 ≤ v := by
  unfold laws_markSack.f
  obtain ⟨v, y, h1, h2⟩ := markGapS_ev l hl
  exact ⟨v, y, Ev.bind h1 (Ev.now _), h2⟩
theorem FnExactPackSack : laws_FnExactPackSack.Pure := by
  intro a l _ hl
  have hr := sackR_len a (l.map toIGap)
  apply Ev.rounds
  unfold laws_FnExactPackSack.f
  by_cases hbig : (1048576 : Int) < (l.length : Int)
  · exact Ev.bind (Ev.all fun _ => szSack_big hl.1 (by omega) (by omega) hbig) (Ev.pos (by omega) (Ev.now _))
  have g : l.length ≤ 1048576 := by omega
  have gm : (l.map toIGap).length ≤ 1048576 := by rw [List.length_map]; exact g
  have hT := toSack_ev a l (by omega)
  have hS := specPackSack_ev a (l.map toIGap)
  have hI := implPackSack_ev a (l.map toIGap)
  obtain ⟨v, y, hM, hv⟩ := markSack_ev a (l.map toIGap) gm
  refine Ev.bind (Ev.all fun _ => szSack_ok (by omega) (by omega)) (Ev.neg (by omega) (Ev.bind hT (Ev.bind hS (Ev.bind hT (Ev.bind hI (Ev.bind (eqChunkResult_self _ _ _ _ (by omega)) (Ev.pos rfl ?_)))))))
  refine Ev.bind hT (Ev.bind (eqSack_self a (l.map toIGap) gm) (Ev.pos rfl ?_))
  refine Ev.bind hM (Ev.neg (by omega) (Ev.bind (eqChunkResult_self _ _ _ _ (by omega)) ?_))
  refine Ev.step (fun k => by simp only [laws_FnExactPackSack.j0]; rfl) (Ev.neg (by decide) ?_)
  refine Ev.bind (markChunkResult_ev _ _ _ _ (by omega)) (Ev.bind (heldChunkResult_ev _ _ _ _ (by omega)) (Ev.neg (by omega) (Ev.pos rfl ?_)))
  refine Ev.bind hT (Ev.bind hI (Ev.bind (eqChunkResult_self _ _ _ _ (by omega)) (Ev.pos rfl ?_)))
  exact Ev.bind (heldChunkResult_ev _ _ _ _ (by omega)) (Ev.neg (by omega) (Ev.pos rfl (Ev.now _)))
end FnExactPackSack_
theorem FnExactPackSack : laws_FnExactPackSack.Pure := FnExactPackSack_.FnExactPackSack
end Go.Proofs.Ytacfebnfdmbkaaa.Pure
