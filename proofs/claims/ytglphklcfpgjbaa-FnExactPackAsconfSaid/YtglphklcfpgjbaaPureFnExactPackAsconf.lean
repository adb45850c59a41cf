/- The pure statement of FnExactPackAsconf: what the printed functions of the program and of the reference compute makes the law answer true, for all arguments (each number of its kind). -/
import Derived.Test.YtglphklcfpgjbaaPFnExactPackAsconfx6
import Derived.Test.YtglphklcfpgjbaaBase
set_option linter.unusedVariables false
set_option linter.unusedSimpArgs false
namespace Go.Proofs.Ytglphklcfpgjbaa.Pure
open Go.RowKit Go.Proofs.Ytglphklcfpgjbaa.PFnExactPackAsconf Go.Proofs.YtglphklcfpgjbaaW.PrintWords Go.Proofs.YtglphklcfpgjbaaW.PrintLast Go.Proofs.YtglphklcfpgjbaaW.PrintMore Go.Proofs.Ytglphklcfpgjbaa.Base
namespace FnExactPackAsconf_
theorem l1In_eq (a b c : Int) : spec_l1In.f a b c = some (inB a b c) := ge_le
theorem within_eq (a b c : Int) : impl_within.f a b c = some (inB a b c) := ge_le
theorem l1Word32_eq (a : Int) : spec_l1Word32.f a = some (isWd a) := by
  unfold spec_l1Word32.f; rw [l1In_eq]; rfl
theorem isWord_eq (a : Int) : impl_isWord.f a = some (isWd a) := by
  unfold impl_isWord.f; rw [within_eq]; rfl
theorem eqByteS_l0 (l : List Int) (hl : l.length ≤ 4611686018427387904) (d : Nat) : ∀ i : Nat, i + d = l.length → Ev (fun k => laws_eqByteS.l0 k l l (i : Int)) true := by
  induction d with
  | zero =>
    intro i h
    exact Ev.ret fun k => by simp only [laws_eqByteS.l0]; rw [if_neg (by omega)]
  | succ d ih =>
    intro i h
    refine Ev.step (f := fun k => laws_eqByteS.l0 k l l ((i + 1 : Nat) : Int)) (fun k => ?_) (ih (i + 1) (by omega))
    simp only [laws_eqByteS.l0]
    rw [if_pos (by omega), if_pos (by omega), if_pos (by omega), if_pos (by trivial), w64 (by omega) (by omega)]; rfl
theorem eqByteS_self (l : List Int) (hl : l.length ≤ 4611686018427387904) : Ev (fun k => laws_eqByteS.f k l l) true := by
  unfold laws_eqByteS.f
  simp only [if_true]
  exact eqByteS_l0 l hl l.length 0 (by omega)
theorem l1Pack_eq {w : Int} (hw : Wd w) : spec_l1Pack.f w = some (pack4 w) := by
  obtain ⟨_, _⟩ := hw
  unfold spec_l1Pack.f pack4
  rw [Int.tdiv_eq_ediv_of_nonneg (by omega), Int.tdiv_eq_ediv_of_nonneg (by omega), Int.tdiv_eq_ediv_of_nonneg (by omega), w64 (x := w / 16777216) (by omega) (by omega), w64 (x := w / 65536) (by omega) (by omega), w64 (x := w / 256) (by omega) (by omega), Int.tmod_eq_emod_of_nonneg (by omega), Int.tmod_eq_emod_of_nonneg (by omega), Int.tmod_eq_emod_of_nonneg (by omega)]
  simp only [Int.emod_emod]
theorem four_eq (w : Int) : impl_four.f w = some (pack4 w) := rfl
theorem markByteS_l0 (n : Nat) (hn : n ≤ 281474976710656) (a : Int) (ha : 0 ≤ a) (ha1 : a ≤ 4611686018427387904) (d : Nat) : ∀ (i : Nat) (x : List Int), i + d = n → x.length = n → x.take i = mks a i → Ev (fun k => laws_markByteS.l0 k x (a + i) (i : Int)) (a + n, mks a n) := by
  induction d with
  | zero =>
    intro i x h hx ht
    have e : x = mks a n := by
      rw [show i = n by omega, List.take_of_length_le (by omega)] at ht
      exact ht
    obtain rfl : i = n := by omega
    subst e
    exact Ev.ret fun k => by simp only [laws_markByteS.l0]; rw [if_neg (by rw [mks_length]; omega)]
  | succ d ih =>
    intro i x h hx ht
    have hi : i < x.length := by omega
    refine Ev.step (f := fun k => laws_markByteS.l0 k (x.set i ((a + i) % 256)) (a + ((i + 1 : Nat) : Int)) ((i + 1 : Nat) : Int)) (fun k => ?_) (ih (i + 1) _ (by omega) (by rw [List.length_set]; exact hx) ?_)
    · simp only [laws_markByteS.l0]
      rw [if_pos (by omega), if_pos (by omega), w64 (x := (i : Int) + 1) (by omega) (by omega), w64 (x := a + i + 1) (by omega) (by omega)]
      simp only [Int.toNat_natCast]
      have : a + (i : Int) + 1 = a + ((i + 1 : Nat) : Int) := by omega
      rw [this]; rfl
    · rw [List.take_succ_eq_append_getElem (by rw [List.length_set]; omega), List.getElem_set_self, List.take_set_of_le (by omega), ht, mks_snoc]
theorem markByteS_ev (l : List Int) (hl : l.length ≤ 281474976710656) (a : Int) (ha : 0 ≤ a) (ha1 : a ≤ 4611686018427387904) : Ev (fun k => laws_markByteS.f k l a) (a + l.length, mks a l.length) := by
  have h := markByteS_l0 l.length hl a ha ha1 l.length 0 l (by omega) rfl rfl
  unfold laws_markByteS.f
  simpa only [Int.natCast_zero, Int.add_zero] using h
theorem heldByteS_l0 (n : Nat) (hn : n ≤ 281474976710656) (a : Int) (ha : 0 ≤ a) (ha1 : a ≤ 4611686018427387904) (d : Nat) : ∀ (i : Nat), i + d = n → Ev (fun k => laws_heldByteS.l0 k (mks a n) (a + i) (i : Int)) (a + n) := by
  induction d with
  | zero =>
    intro i h
    obtain rfl : i = n := by omega
    exact Ev.ret fun k => by simp only [laws_heldByteS.l0]; rw [if_neg (by rw [mks_length]; omega)]
  | succ d ih =>
    intro i h
    refine Ev.step (f := fun k => laws_heldByteS.l0 k (mks a n) (a + ((i + 1 : Nat) : Int)) ((i + 1 : Nat) : Int)) (fun k => ?_) (ih (i + 1) (by omega))
    simp only [laws_heldByteS.l0]
    rw [if_pos (by rw [mks_length]; omega), if_pos (by omega), rd_nat _ i (by rw [mks_length]; omega), mks_get a n i (by omega), if_pos rfl, w64 (x := (i : Int) + 1) (by omega) (by omega), w64 (x := a + i + 1) (by omega) (by omega)]
    have : a + (i : Int) + 1 = a + ((i + 1 : Nat) : Int) := by omega
    rw [this]; rfl
theorem heldByteS_ev (n : Nat) (hn : n ≤ 281474976710656) (a : Int) (ha : 0 ≤ a) (ha1 : a ≤ 4611686018427387904) : Ev (fun k => laws_heldByteS.f k (mks a n) a) (a + n) := by
  have h := heldByteS_l0 n hn a ha ha1 n 0 (by omega)
  unfold laws_heldByteS.f
  simpa only [Int.natCast_zero, Int.add_zero] using h
theorem blk_len {p : List Int} {m n : Nat} (hp : p.length = 64 * m) (hn : n < m) : ((p.take (64 * n + 64)).drop (64 * n)).length = 64 := by
  rw [List.length_drop, List.length_take]; omega
theorem blk_ifs {n m : Nat} (hm : m ≤ 1000) (hn : n < m) : ((64 * n : Nat) : Int) < ((64 * m : Nat) : Int) ∧ 0 ≤ ((64 * n : Nat) : Int) ∧ ((64 * n : Nat) : Int) ≤ ((64 * n + 64 : Nat) : Int) ∧ ((64 * n + 64 : Nat) : Int) ≤ ((64 * m : Nat) : Int) ∧ wrap64 (((64 * n : Nat) : Int) + 64) = ((64 * n + 64 : Nat) : Int) := by
  refine ⟨by omega, by omega, by omega, by omega, ?_⟩
  rw [w64 (by omega) (by omega)]; omega
theorem padded_64 (l : List Int) : (padded l).length = 64 * ((padded l).length / 64) := by
  rw [padded_length]; unfold zerosFor; omega
theorem padded_few {l : List Int} (h : l.length ≤ 700) : (padded l).length / 64 ≤ 1000 := by
  rw [padded_length]; unfold zerosFor; omega
theorem eqChunk_self (a b : Int) (l : List Int) (hl : l.length ≤ 4611686018427387904) : Ev (fun k => laws_eqChunk.f k a b l a b l) true := by
  unfold laws_eqChunk.f
  exact Ev.pos rfl (Ev.pos rfl (Ev.bind (eqByteS_self l hl) (Ev.pos rfl (Ev.now _))))
theorem markChunk_ev (a b : Int) (l : List Int) (hl : l.length ≤ 281474976710656) : Ev (fun k => laws_markChunk.f k a b l 1) (1 + l.length, mks 1 l.length) := by
  unfold laws_markChunk.f
  exact Ev.bind (markByteS_ev l hl 1 (by omega) (by omega)) (Ev.now _)
theorem Grow_eq {n : Int} (h0 : 0 ≤ n) (h1 : n ≤ 1000000) : slices_Grow_byte_byte.f [] n = some [] := by
  unfold slices_Grow_byte_byte.f
  rw [if_pos h0, if_pos (by omega)]
def sumLen (xs : List (List Int)) : Nat := xs.flatten.length
theorem rdL1 (xs : List (List Int)) (i : Nat) (h : i < xs.length) : rd_L4 xs (i : Int) = xs[i] := by
  unfold rd_L4; rw [Int.toNat_natCast, List.getD_eq_getElem?_getD, List.getElem?_eq_getElem h]; rfl
theorem Concat_l1 (x0 xs : List (List Int)) (hn : xs.length ≤ 1000) (hs : xs.flatten.length ≤ 1000000) (d : Nat) : ∀ (i : Nat) (acc : List Int), i + d = xs.length → acc.length + ((xs.drop i).flatten).length ≤ 1000000 → Ev (fun k => slices_Concat_byte_byte.l1 k acc xs (xs.length : Int) (i : Int)) (acc ++ (xs.drop i).flatten) := by
  induction d with
  | zero =>
    intro i acc h ha
    refine Ev.ret fun k => ?_
    simp only [slices_Concat_byte_byte.l1]
    rw [if_neg (by omega), List.drop_of_length_le (by omega)]
    simp
  | succ d ih =>
    intro i acc h ha
    have hi : i < xs.length := by omega
    have hr : rd_L4 xs (i : Int) = xs[i] := rdL1 xs i hi
    have hw : wrap64 ((i : Int) + 1) = ((i + 1 : Nat) : Int) := w64_succ (by omega)
    have e : (xs.drop i).flatten = xs[i] ++ (xs.drop (i + 1)).flatten := by rw [drop_cons xs i hi, List.flatten_cons]
    have hl : (xs.drop i).flatten.length = xs[i].length + (xs.drop (i + 1)).flatten.length := by rw [e, List.length_append]
    rw [e, ← List.append_assoc]
    refine Ev.step (fun k => by simp only [slices_Concat_byte_byte.l1, hr, hw]; rfl) ?_
    exact Ev.pos (by omega) (Ev.pos (by omega) (Ev.pos (by omega) (Ev.pos (by omega) (ih (i + 1) (acc ++ xs[i]) (by omega) (by rw [List.length_append]; omega)))))
theorem Concat_l0 (xs : List (List Int)) (hn : xs.length ≤ 1000) (hs : xs.flatten.length ≤ 1000000) (d : Nat) : ∀ (i s : Nat), i + d = xs.length → s + ((xs.drop i).flatten).length ≤ 1000000 → Ev (fun k => slices_Concat_byte_byte.l0 k xs (s : Int) xs (xs.length : Int) (i : Int)) xs.flatten := by
  induction d with
  | zero =>
    intro i s h ha
    have h1 := Concat_l1 xs xs hn hs xs.length 0 [] (by omega) (by simpa using hs)
    simp only [List.drop_zero, List.nil_append] at h1
    refine Ev.step (fun k => by simp only [slices_Concat_byte_byte.l0, Grow_eq (n := (s : Int)) (by omega) (by omega), Option.bind_some]; rfl) (Ev.neg (by omega) h1)
  | succ d ih =>
    intro i s h ha
    have hi : i < xs.length := by omega
    have hr : rd_L4 xs (i : Int) = xs[i] := rdL1 xs i hi
    have hw : wrap64 ((i : Int) + 1) = ((i + 1 : Nat) : Int) := w64_succ (by omega)
    have hl : (xs.drop i).flatten.length = xs[i].length + (xs.drop (i + 1)).flatten.length := by rw [drop_cons xs i hi, List.flatten_cons, List.length_append]
    have hv : wrap64 ((s : Int) + (xs[i].length : Int)) = ((s + xs[i].length : Nat) : Int) := by rw [w64 (by omega) (by omega)]; omega
    refine Ev.step (fun k => by simp only [slices_Concat_byte_byte.l0, hr, hw, hv]; rfl) ?_
    exact Ev.pos (by omega) (Ev.pos (by omega) (Ev.pos (by omega) (Ev.neg (by omega) (ih (i + 1) (s + xs[i].length) (by omega) (by omega)))))
theorem Concat_ev (xs : List (List Int)) (hn : xs.length ≤ 1000) (hs : xs.flatten.length ≤ 1000000) : Ev (fun k => slices_Concat_byte_byte.f k xs) xs.flatten := by
  have h := Concat_l0 xs hn hs xs.length 0 0 (by omega) (by simpa using hs)
  unfold slices_Concat_byte_byte.f
  exact h
theorem chunk_ev (a b : Int) (xs : List (List Int)) (hn : xs.length ≤ 1000) (hs : xs.flatten.length ≤ 1000000) : Ev (fun k => impl_chunk.f k a b xs) (0, a, b, xs.flatten) := by
  unfold impl_chunk.f
  exact Ev.bind (Concat_ev xs hn hs) (Ev.now _)
theorem isAddr_eq (n : Int) : impl_isAddr.f n = some (inB n 1 255) := by unfold impl_isAddr.f; rw [within_eq]; rfl
theorem l5Bad_eq (c : Int) : spec_l5Bad.f c = some (c, 0, 0, []) := rfl
theorem eqChunkResult_self (c a b : Int) (l : List Int) (hl : l.length ≤ 4611686018427387904) : Ev (fun k => laws_eqChunkResult.f k c a b l c a b l) true := by
  unfold laws_eqChunkResult.f
  exact Ev.pos rfl (Ev.bind (eqChunk_self a b l hl) (Ev.pos rfl (Ev.now _)))
theorem markChunkResult_ev (c a b : Int) (l : List Int) (hl : l.length ≤ 281474976710656) : Ev (fun k => laws_markChunkResult.f k c a b l 1) (1 + l.length, mks 1 l.length) := by
  unfold laws_markChunkResult.f
  exact Ev.bind (markChunk_ev a b l hl) (Ev.now _)
theorem heldChunk_ev (a b : Int) (n : Nat) (hn : n ≤ 281474976710656) : Ev (fun k => laws_heldChunk.f k a b (mks 1 n) 1) (1 + n) := by
  unfold laws_heldChunk.f
  exact Ev.bind (heldByteS_ev n hn 1 (by omega) (by omega)) (Ev.neg (by omega) (Ev.now _))
theorem heldChunkResult_ev (c a b : Int) (n : Nat) (hn : n ≤ 281474976710656) : Ev (fun k => laws_heldChunkResult.f k c a b (mks 1 n) 1) (1 + n) := by
  unfold laws_heldChunkResult.f
  exact Ev.bind (heldChunk_ev a b n hn) (Ev.neg (by omega) (Ev.now _))
theorem rdLAddrOp (xs : List S167) (i : Nat) (h : i < xs.length) : rd_T167 xs (i : Int) = xs[i] := by
  unfold rd_T167; rw [Int.toNat_natCast, List.getD_eq_getElem?_getD, List.getElem?_eq_getElem h]; rfl
theorem rdIAddrOp (xs : List S158) (i : Nat) (h : i < xs.length) : rd_T158 xs (i : Int) = xs[i] := by
  unfold rd_T158; rw [Int.toNat_natCast, List.getD_eq_getElem?_getD, List.getElem?_eq_getElem h]; rfl
def toIAddrOp (c : S167) : S158 := ⟨c.f0, c.f1⟩
theorem szAddrOpS_big {l : List S167} (hl : l.length ≤ 9223372036854775807) {a : Int} (h0 : 0 ≤ a) (h1 : a ≤ 1048576) (h : a < (l.length : Int)) : laws_szAddrOpS.f l a = some (-1) := by
  unfold laws_szAddrOpS.f
  rw [w64 (by omega) (by omega), if_pos (by omega)]
theorem szAddrOpS_ok {l : List S167} {a : Int} (h1 : a ≤ 1048576) (h : (l.length : Int) ≤ a) : laws_szAddrOpS.f l a = some (a - (l.length : Int)) := by
  unfold laws_szAddrOpS.f
  rw [w64 (by omega) (by omega), if_neg (by omega)]
theorem toAddrOpS_l0 (l : List S167) (hn : l.length ≤ 1048576) (d : Nat) : ∀ (i : Nat) (x : List S158), i + d = l.length → x.length = l.length → x.take i = (l.map toIAddrOp).take i → Ev (fun k => laws_toAddrOpS.l0 k l x (i : Int)) (l.map toIAddrOp) := by
  induction d with
  | zero =>
    intro i x h hxl ht
    rw [List.take_of_length_le (by omega), List.take_of_length_le (by rw [List.length_map]; omega)] at ht
    subst ht
    exact Ev.ret fun k => by simp only [laws_toAddrOpS.l0]; rw [if_neg (by omega)]
  | succ d ih =>
    intro i x h hxl ht
    have hi : i < l.length := by omega
    have him : i < (l.map toIAddrOp).length := by rw [List.length_map]; exact hi
    have hr : rd_T167 l (i : Int) = l[i] := rdLAddrOp l i hi
    have hw : wrap64 ((i : Int) + 1) = ((i + 1 : Nat) : Int) := w64_succ (by omega)
    have hv : (l.map toIAddrOp)[i] = (⟨l[i].f0, l[i].f1⟩ : S158) := by rw [List.getElem_map]; rfl
    have hs := take_set_succ x (l.map toIAddrOp) i (by omega) him ht
    rw [hv] at hs
    have h2 := ih (i + 1) (x.set i (⟨l[i].f0, l[i].f1⟩ : S158)) (by omega) (by rw [List.length_set]; exact hxl) hs
    refine Ev.step (fun k => by simp only [laws_toAddrOpS.l0, laws_toAddrOp.f, Option.bind_some, hr, hw, Int.toNat_natCast]; rfl) ?_
    exact Ev.pos (by omega) (Ev.pos (by omega) (Ev.pos (by omega) h2))
theorem toAddrOpS_ev (l : List S167) (hn : l.length ≤ 1048576) : Ev (fun k => laws_toAddrOpS.f k l) (l.map toIAddrOp) := by
  have h := toAddrOpS_l0 l hn l.length 0 (List.replicate l.length z158) (by omega) (by simp) (by simp)
  unfold laws_toAddrOpS.f
  simp only [Int.toNat_natCast]
  exact Ev.pos (by omega) (Ev.pos (by omega) h)
theorem eqAddrOpS_l0 (l : List S158) (hn : l.length ≤ 1048576) (d : Nat) : ∀ (i : Nat), i + d = l.length → Ev (fun k => laws_eqAddrOpS.l0 k l l (i : Int)) true := by
  induction d with
  | zero =>
    intro i h
    exact Ev.ret fun k => by simp only [laws_eqAddrOpS.l0]; rw [if_neg (by omega)]
  | succ d ih =>
    intro i h
    have hi : i < l.length := by omega
    have hr : rd_T158 l (i : Int) = l[i] := rdIAddrOp l i hi
    have hw : wrap64 ((i : Int) + 1) = ((i + 1 : Nat) : Int) := w64_succ (by omega)
    have he : laws_eqAddrOp.f l[i].f0 l[i].f1 l[i].f0 l[i].f1 = some true := by unfold laws_eqAddrOp.f; rw [if_pos rfl, if_pos rfl]
    refine Ev.step (fun k => by simp only [laws_eqAddrOpS.l0, hr, hw, he, Option.bind_some, if_true]; rfl) ?_
    exact Ev.pos (by omega) (Ev.pos (by omega) (Ev.pos (by omega) (ih (i + 1) (by omega))))
theorem eqAddrOpS_self (l : List S158) (hn : l.length ≤ 1048576) : Ev (fun k => laws_eqAddrOpS.f k l l) true := by
  unfold laws_eqAddrOpS.f
  exact Ev.pos rfl (eqAddrOpS_l0 l hn l.length 0 (by omega))
theorem markAddrOpS_l0 (d : Nat) : ∀ (i : Nat) (x : List S158) (a : Int), i + d = x.length → x.length ≤ 1048576 → 0 ≤ a → a ≤ 10 + 2 * (i : Int) → ∃ v y, Ev (fun k => laws_markAddrOpS.l0 k x a (i : Int)) (v, y) ∧ 0 ≤ v := by
  induction d with
  | zero =>
    intro i x a h hx h0 h1
    exact ⟨a, x, Ev.ret fun k => by simp only [laws_markAddrOpS.l0]; rw [if_neg (by omega)], h0⟩
  | succ d ih =>
    intro i x a h hx h0 h1
    have hw : wrap64 ((i : Int) + 1) = ((i + 1 : Nat) : Int) := w64_succ (by omega)
    have w1 : wrap64 (a + 1) = a + 1 := w64 (by omega) (by omega)
    have w2 : wrap64 (a + 1 + 1) = a + 2 := by rw [w64 (by omega) (by omega)]; omega
    have hx1 : ((x.set i (⟨a, (rd_T158 x (i : Int)).f1⟩ : S158)).set i (⟨(rd_T158 (x.set i (⟨a, (rd_T158 x (i : Int)).f1⟩ : S158)) (i : Int)).f0, a + 1⟩ : S158)).length = x.length := by rw [List.length_set, List.length_set]
    obtain ⟨v, y, h2, h3⟩ := ih (i + 1) ((x.set i (⟨a, (rd_T158 x (i : Int)).f1⟩ : S158)).set i (⟨(rd_T158 (x.set i (⟨a, (rd_T158 x (i : Int)).f1⟩ : S158)) (i : Int)).f0, a + 1⟩ : S158)) (a + 2) (by rw [hx1]; omega) (by rw [hx1]; exact hx) (by omega) (by omega)
    exact ⟨v, y, Ev.step (fun k => by simp only [laws_markAddrOpS.l0, Option.bind_some, hw, w1, w2, Int.toNat_natCast]; rfl) (Ev.pos (by omega) (Ev.pos (by omega) h2)), h3⟩
theorem markAddrOpS_ev (l : List S158) (hn : l.length ≤ 1048576) : ∃ v y, Ev (fun k => laws_markAddrOpS.f k l 1) (v, y) ∧ 0 ≤ v := by
  unfold laws_markAddrOpS.f
  exact markAddrOpS_l0 l.length 0 l 1 (by omega) hn (by omega) (by omega)
def opsF : List S158 → Int
  | [] => 0
  | c :: t => if inB c.f0 1 3 = true then (if inB c.f1 1 255 = true then opsF t else 3) else 3
def opB (c : S158) : List Int := [c.f0 % 256, c.f1 % 256]
def ascF (a : Int) (l : List S158) : Int := if isWd a = true then (if 1 ≤ l.length ∧ l.length ≤ 4 then opsF l else 2) else 3
def ascBody (a : Int) (l : List S158) : List Int := pack4 a ++ [(l.length : Int) % 256] ++ (l.map opB).flatten
def ascR (a : Int) (l : List S158) : Int × Int × Int × List Int := if ascF a l = 0 then (0, 193, 0, ascBody a l) else (ascF a l, 0, 0, [])
theorem opB_len (l : List S158) : ((l.map opB).flatten).length = 2 * l.length := by
  induction l with
  | nil => rfl
  | cons x t ih => rw [List.map_cons, List.flatten_cons, List.length_append, ih, List.length_cons]; simp [opB]; omega
theorem ascBody_len (a : Int) (l : List S158) : (ascBody a l).length = 5 + 2 * l.length := by
  unfold ascBody; rw [List.length_append, opB_len]; simp [pack4]
theorem ascF_zero {a : Int} {l : List S158} (h : ascF a l = 0) : Wd a ∧ l.length ≤ 4 := by
  unfold ascF at h
  by_cases h0 : isWd a = true
  · by_cases h1 : 1 ≤ l.length ∧ l.length ≤ 4
    · exact ⟨isWd_true.1 h0, h1.2⟩
    · rw [if_pos h0, if_neg h1] at h; exact absurd h (by decide)
  · rw [if_neg h0] at h; exact absurd h (by decide)
theorem ascR_len (a : Int) (l : List S158) : (ascR a l).2.2.2.length ≤ 13 := by
  unfold ascR
  by_cases h : ascF a l = 0
  · rw [if_pos h]; have := (ascF_zero h).2; show (ascBody a l).length ≤ 13; rw [ascBody_len]; omega
  · rw [if_neg h]; exact Nat.zero_le _
theorem l5Addr_eq (n : Int) : spec_l5Addr.f n = some (inB n 1 255) := by unfold spec_l5Addr.f; rw [l1In_eq]; rfl
theorem ascFault_l0 (a : Int) (l : List S158) (hl : l.length ≤ 1000) (d : Nat) : ∀ i : Nat, i + d = l.length → Ev (fun k => spec_l5AsconfFault.l0 k (i : Int) a l) (opsF (l.drop i)) := by
  induction d with
  | zero =>
    intro i h
    refine Ev.ret fun k => ?_
    simp only [spec_l5AsconfFault.l0]
    rw [if_neg (by omega), List.drop_of_length_le (by omega)]; rfl
  | succ d ih =>
    intro i h
    have hi : i < l.length := by omega
    have hr : rd_T158 l (i : Int) = l[i] := rdIAddrOp l i hi
    have hw : wrap64 ((i : Int) + 1) = ((i + 1 : Nat) : Int) := w64_succ (by omega)
    rw [drop_cons l i hi]
    refine Ev.step (fun k => by simp only [spec_l5AsconfFault.l0, l1In_eq, l5Addr_eq, Option.bind_some, hr, hw]; rfl) (Ev.pos (by omega) (Ev.pos (by omega) ?_))
    show Ev _ (if inB l[i].f0 1 3 = true then (if inB l[i].f1 1 255 = true then opsF (l.drop (i + 1)) else 3) else 3)
    by_cases h0 : inB l[i].f0 1 3 = true
    · rw [if_pos h0]
      refine Ev.pos h0 ?_
      by_cases h1 : inB l[i].f1 1 255 = true
      · rw [if_pos h1]; exact Ev.pos h1 (ih (i + 1) (by omega))
      · rw [if_neg h1]; exact Ev.neg h1 (Ev.now _)
    · rw [if_neg h0]; exact Ev.neg h0 (Ev.now _)
theorem ascFault_ev (a : Int) (l : List S158) : Ev (fun k => spec_l5AsconfFault.f k a l) (ascF a l) := by
  unfold spec_l5AsconfFault.f ascF
  simp only [l1Word32_eq, Option.bind_some]
  by_cases h0 : isWd a = true
  · rw [if_pos h0]
    refine Ev.pos h0 ?_
    by_cases h1 : (l.length : Int) < 1
    · rw [if_neg (by omega)]
      exact Ev.pos h1 (Ev.ret fun k => by simp only [spec_l5AsconfFault.j0, if_true])
    · refine Ev.neg h1 ?_
      by_cases h2 : (l.length : Int) > 4
      · rw [if_neg (by omega), decide_eq_true h2]
        exact Ev.ret fun k => by simp only [spec_l5AsconfFault.j0, if_true]
      · rw [if_pos (by omega), decide_eq_false h2]
        refine Ev.step (fun k => by simp only [spec_l5AsconfFault.j0, Bool.false_eq_true, if_false] <;> rfl) ?_
        exact ascFault_l0 a l (by omega) l.length 0 (by omega)
  · rw [if_neg h0]
    exact Ev.neg h0 (Ev.now _)
theorem l5Asconf_l0 (a : Int) (l : List S158) (hl : l.length ≤ 1000) (d : Nat) : ∀ (i : Nat) (acc : List Int), i + d = l.length → acc.length ≤ 10 + 2 * i → Ev (fun k => spec_l5Asconf.l0 k acc (i : Int) a l) (193, 0, acc ++ ((l.drop i).map opB).flatten) := by
  induction d with
  | zero =>
    intro i acc h ha
    refine Ev.ret fun k => ?_
    simp only [spec_l5Asconf.l0]
    rw [if_neg (by omega), List.drop_of_length_le (by omega), List.map_nil, List.flatten_nil, List.append_nil]
  | succ d ih =>
    intro i acc h ha
    have hi : i < l.length := by omega
    have hr : rd_T158 l (i : Int) = l[i] := rdIAddrOp l i hi
    have hw : wrap64 ((i : Int) + 1) = ((i + 1 : Nat) : Int) := w64_succ (by omega)
    have e : acc ++ ((l.drop i).map opB).flatten = (acc ++ [l[i].f0 % 256, l[i].f1 % 256]) ++ ((l.drop (i + 1)).map opB).flatten := by
      rw [drop_cons l i hi, List.map_cons, List.flatten_cons, List.append_assoc]; rfl
    rw [e]
    refine Ev.step (fun k => by simp only [spec_l5Asconf.l0, hr, hw, Option.bind_some]; rfl) ?_
    exact Ev.pos (by omega) (Ev.pos (by omega) (Ev.pos (by simp; omega) (ih (i + 1) (acc ++ [l[i].f0 % 256, l[i].f1 % 256]) (by omega) (by simp; omega))))
theorem specPackAsconf_ev (a : Int) (l : List S158) : Ev (fun k => spec_PackAsconf.f k a l) (ascR a l) := by
  unfold spec_PackAsconf.f ascR
  refine Ev.bind (ascFault_ev a l) ?_
  by_cases h : ascF a l = 0
  · rw [if_pos h]
    obtain ⟨h0, h1⟩ := ascF_zero h
    refine Ev.pos h (Ev.bind (a := (193, 0, ascBody a l)) ?_ (Ev.now _))
    unfold spec_l5Asconf.f
    rw [l1Pack_eq h0]
    simp only [Option.bind_some]
    exact Ev.pos (by simp [pack4]) (l5Asconf_l0 a l (by omega) l.length 0 (pack4 a ++ [(l.length : Int) % 256]) (by omega) (by simp [pack4]))
  · rw [if_neg h]
    exact Ev.neg h (Ev.bind (Ev.all fun _ => l5Bad_eq _) (Ev.now _))
theorem ascCode_l0 (l : List S158) (hl : l.length ≤ 1000) (d : Nat) : ∀ i : Nat, i + d = l.length → Ev (fun k => impl_asconfCode.l0 k l (l.length : Int) (i : Int)) (opsF (l.drop i)) := by
  induction d with
  | zero =>
    intro i h
    refine Ev.ret fun k => ?_
    simp only [impl_asconfCode.l0]
    rw [if_neg (by omega), List.drop_of_length_le (by omega)]; rfl
  | succ d ih =>
    intro i h
    have hi : i < l.length := by omega
    have hr : rd_T158 l (i : Int) = l[i] := rdIAddrOp l i hi
    have hw : wrap64 ((i : Int) + 1) = ((i + 1 : Nat) : Int) := w64_succ (by omega)
    rw [drop_cons l i hi]
    refine Ev.step (fun k => by simp only [impl_asconfCode.l0, within_eq, isAddr_eq, Option.bind_some, hr, hw]; rfl) (Ev.pos (by omega) (Ev.pos (by omega) (Ev.pos (by omega) ?_)))
    show Ev _ (if inB l[i].f0 1 3 = true then (if inB l[i].f1 1 255 = true then opsF (l.drop (i + 1)) else 3) else 3)
    by_cases h0 : inB l[i].f0 1 3 = true
    · rw [if_pos h0]
      refine Ev.pos h0 ?_
      by_cases h1 : inB l[i].f1 1 255 = true
      · rw [if_pos h1]; exact Ev.pos h1 (ih (i + 1) (by omega))
      · rw [if_neg h1]; exact Ev.neg h1 (Ev.now _)
    · rw [if_neg h0]; exact Ev.neg h0 (Ev.now _)
theorem ascCode_ev (a : Int) (l : List S158) : Ev (fun k => impl_asconfCode.f k a l) (ascF a l) := by
  unfold impl_asconfCode.f ascF
  simp only [isWord_eq, within_eq, Option.bind_some]
  by_cases h0 : isWd a = true
  · rw [if_pos h0]
    refine Ev.pos h0 ?_
    by_cases h1 : 1 ≤ l.length ∧ l.length ≤ 4
    · rw [if_pos h1]
      exact Ev.pos (inB_true.2 (by omega)) (ascCode_l0 l (by omega) l.length 0 (by omega))
    · rw [if_neg h1]
      exact Ev.neg (fun h => h1 (by have := inB_true.1 h; omega)) (Ev.now _)
  · rw [if_neg h0]
    exact Ev.neg h0 (Ev.now _)
theorem implAsconf_l0 (l : List S158) (hl : l.length ≤ 1000) (d : Nat) : ∀ (i : Nat) (acc : List Int), i + d = l.length → acc.length ≤ 10 + 2 * i → Ev (fun k => impl_PackAsconf.l0 k acc l (l.length : Int) (i : Int)) (0, 193, 0, acc ++ ((l.drop i).map opB).flatten) := by
  induction d with
  | zero =>
    intro i acc h ha
    have hc := chunk_ev 193 0 [acc] (by simp) (by simp; omega)
    rw [List.flatten_cons, List.flatten_nil, List.append_nil] at hc
    rw [List.drop_of_length_le (by omega), List.map_nil, List.flatten_nil, List.append_nil]
    exact Ev.step (fun k => by simp only [impl_PackAsconf.l0]; rfl) (Ev.neg (by omega) (Ev.bind hc (Ev.now _)))
  | succ d ih =>
    intro i acc h ha
    have hi : i < l.length := by omega
    have hr : rd_T158 l (i : Int) = l[i] := rdIAddrOp l i hi
    have hw : wrap64 ((i : Int) + 1) = ((i + 1 : Nat) : Int) := w64_succ (by omega)
    have e : acc ++ ((l.drop i).map opB).flatten = (acc ++ [l[i].f0 % 256, l[i].f1 % 256]) ++ ((l.drop (i + 1)).map opB).flatten := by
      rw [drop_cons l i hi, List.map_cons, List.flatten_cons, List.append_assoc]; rfl
    rw [e]
    refine Ev.step (fun k => by simp only [impl_PackAsconf.l0, hr, hw, Option.bind_some]; rfl) ?_
    exact Ev.pos (by omega) (Ev.pos (by omega) (Ev.pos (by omega) (Ev.pos (by simp; omega) (ih (i + 1) (acc ++ [l[i].f0 % 256, l[i].f1 % 256]) (by omega) (by simp; omega)))))
theorem implPackAsconf_ev (a : Int) (l : List S158) : Ev (fun k => impl_PackAsconf.f k a l) (ascR a l) := by
  unfold impl_PackAsconf.f ascR
  refine Ev.bind (ascCode_ev a l) ?_
  by_cases h : ascF a l = 0
  · rw [if_pos h]
    obtain ⟨h0, h1⟩ := ascF_zero h
    simp only [four_eq, Option.bind_some]
    exact Ev.pos h (Ev.pos (by simp [pack4]) (implAsconf_l0 l (by omega) l.length 0 (pack4 a ++ [(l.length : Int) % 256]) (by omega) (by simp [pack4])))
  · rw [if_neg h]
    exact Ev.neg h (Ev.now _)
theorem szAsconf_big {a : Int} {l : List S167} (hl : l.length ≤ 9223372036854775807) {n : Int} (h0 : 0 ≤ n) (h1 : n ≤ 1048576) (h : n < (l.length : Int)) : laws_szAsconf.f a l n = some (-1) := by
  unfold laws_szAsconf.f
  rw [szAddrOpS_big hl h0 h1 h]; rfl
theorem szAsconf_ok {a : Int} {l : List S167} {n : Int} (h1 : n ≤ 1048576) (h : (l.length : Int) ≤ n) : laws_szAsconf.f a l n = some (n - (l.length : Int)) := by
  unfold laws_szAsconf.f
  rw [szAddrOpS_ok h1 h]; simp only [Option.bind_some]
  rw [if_neg (by omega)]
theorem toAsconf_ev (a : Int) (l : List S167) (hl : l.length ≤ 1048576) : Ev (fun k => laws_toAsconf.f k a l) (a, l.map toIAddrOp) := by
  unfold laws_toAsconf.f
  exact Ev.bind (toAddrOpS_ev l hl) (Ev.now _)
theorem eqAsconf_self (a : Int) (l : List S158) (hl : l.length ≤ 1048576) : Ev (fun k => laws_eqAsconf.f k a l a l) true := by
  unfold laws_eqAsconf.f
  exact Ev.pos rfl (Ev.bind (eqAddrOpS_self l hl) (Ev.pos rfl (Ev.now _)))
theorem markAsconf_ev (a : Int) (l : List S158) (hl : l.length ≤ 1048576) : ∃ v y, Ev (fun k => laws_markAsconf.f k a l 1) (v, y) ∧ 0 ≤ v := by
  unfold laws_markAsconf.f
  obtain ⟨v, y, h1, h2⟩ := markAddrOpS_ev l hl
  exact ⟨v, y, Ev.bind h1 (Ev.now _), h2⟩
theorem FnExactPackAsconf : laws_FnExactPackAsconf.Pure := by
  intro a l _ hl
  have hr := ascR_len a (l.map toIAddrOp)
  apply Ev.rounds
  unfold laws_FnExactPackAsconf.f
  by_cases hbig : (1048576 : Int) < (l.length : Int)
  · exact Ev.bind (Ev.all fun _ => szAsconf_big hl.1 (by omega) (by omega) hbig) (Ev.pos (by omega) (Ev.now _))
  have g : l.length ≤ 1048576 := by omega
  have gm : (l.map toIAddrOp).length ≤ 1048576 := by rw [List.length_map]; exact g
  have hT := toAsconf_ev a l (by omega)
  have hS := specPackAsconf_ev a (l.map toIAddrOp)
  have hI := implPackAsconf_ev a (l.map toIAddrOp)
  obtain ⟨v, y, hM, hv⟩ := markAsconf_ev a (l.map toIAddrOp) gm
  refine Ev.bind (Ev.all fun _ => szAsconf_ok (by omega) (by omega)) (Ev.neg (by omega) (Ev.bind hT (Ev.bind hS (Ev.bind hT (Ev.bind hI (Ev.bind (eqChunkResult_self _ _ _ _ (by omega)) (Ev.pos rfl ?_)))))))
  refine Ev.bind hT (Ev.bind (eqAsconf_self a (l.map toIAddrOp) gm) (Ev.pos rfl ?_))
  refine Ev.bind hM (Ev.neg (by omega) (Ev.bind (eqChunkResult_self _ _ _ _ (by omega)) ?_))
  refine Ev.step (fun k => by simp only [laws_FnExactPackAsconf.j0]; rfl) (Ev.neg (by decide) ?_)
  refine Ev.bind (markChunkResult_ev _ _ _ _ (by omega)) (Ev.bind (heldChunkResult_ev _ _ _ _ (by omega)) (Ev.neg (by omega) (Ev.pos rfl ?_)))
  refine Ev.bind hT (Ev.bind hI (Ev.bind (eqChunkResult_self _ _ _ _ (by omega)) (Ev.pos rfl ?_)))
  exact Ev.bind (heldChunkResult_ev _ _ _ _ (by omega)) (Ev.neg (by omega) (Ev.pos rfl (Ev.now _)))
end FnExactPackAsconf_
theorem FnExactPackAsconf : laws_FnExactPackAsconf.Pure := FnExactPackAsconf_.FnExactPackAsconf
end Go.Proofs.Ytglphklcfpgjbaa.Pure
