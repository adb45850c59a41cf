/- The pure statement of FnExactFindAuth: what the printed functions of the program and of the reference compute makes the law answer true, for all arguments (each number of its kind). -/
import Derived.Test.YtglphklcfpgjbaaPFnExactFindAuthx4
import Derived.Test.YtglphklcfpgjbaaBase
set_option linter.unusedVariables false
set_option linter.unusedSimpArgs false
namespace Go.Proofs.Ytglphklcfpgjbaa.Pure
open Go.RowKit Go.Proofs.Ytglphklcfpgjbaa.PFnExactFindAuth Go.Proofs.YtglphklcfpgjbaaW.PrintWords Go.Proofs.YtglphklcfpgjbaaW.PrintLast Go.Proofs.YtglphklcfpgjbaaW.PrintMore Go.Proofs.Ytglphklcfpgjbaa.Base
namespace FnExactFindAuth_
theorem l1In_eq (a b c : Int) : spec_l1In.f a b c = some (inB a b c) := ge_le
theorem within_eq (a b c : Int) : impl_within.f a b c = some (inB a b c) := ge_le
theorem toByteS_l0 (l : List Int) (hl : l.length ≤ 281474976710656) (d : Nat) : ∀ (i : Nat) (x : List Int), i + d = l.length → x.length = l.length → x.take i = l.take i → Ev (fun k => laws_toByteS.l0 k l x (i : Int)) l := by
  induction d with
  | zero =>
    intro i x h hx ht
    have e : x = l := by
      rw [List.take_of_length_le (by omega), List.take_of_length_le (by omega)] at ht
      exact ht
    subst e
    exact Ev.ret fun k => by simp only [laws_toByteS.l0]; rw [if_neg (by omega)]
  | succ d ih =>
    intro i x h hx ht
    have hi : i < l.length := by omega
    refine Ev.step (f := fun k => laws_toByteS.l0 k l (x.set i l[i]) ((i + 1 : Nat) : Int)) (fun k => ?_) ?_
    · simp only [laws_toByteS.l0]
      rw [if_pos (by omega), if_pos (by omega), if_pos (by omega), rd_nat l i hi, w64 (by omega) (by omega)]
      simp only [Int.toNat_natCast]; rfl
    · refine ih (i + 1) _ (by omega) (by rw [List.length_set]; exact hx) ?_
      rw [List.take_succ_eq_append_getElem (by rw [List.length_set]; omega), List.take_succ_eq_append_getElem hi, List.getElem_set_self, List.take_set_of_le (by omega), ht]
theorem toByteS_ev (l : List Int) (hl : l.length ≤ 281474976710656) : Ev (fun k => laws_toByteS.f k l) l := by
  unfold laws_toByteS.f
  simp only [if_pos (show (0 : Int) ≤ (l.length : Int) by omega), if_pos (show ((l.length : Int) : Int).toNat ≤ 281474976710656 by omega)]
  exact toByteS_l0 l hl l.length 0 _ (by omega) (by simp) (by simp)
theorem eqByteS_l0 (l : List Int) (hl : l.length ≤ 4611686018427387904) (d : Nat) : ∀ i : Nat, i + d = l.length → Ev (fun k => laws_eqByteS.l0 k l l (i : Int)) true := by
  induction d with
  | zero =>
    intro i h
    exact Ev.ret fun k => by simp only [laws_eqByteS.l0]; rw [if_neg (by omega)]
  | succ d ih =>
    intro i h
    refine Ev.step (f := fun k => laws_eqByteS.l0 k l l ((i + 1 : Nat) : Int)) (fun k => ?_) (ih (i + 1) (by omega))
    simp only [laws_eqByteS.l0]
    rw [if_pos (by omega), if_pos (by omega), if_pos (by omega), if_pos (by trivial), w64 (by omega) (by omega)]; rfl
theorem eqByteS_self (l : List Int) (hl : l.length ≤ 4611686018427387904) : Ev (fun k => laws_eqByteS.f k l l) true := by
  unfold laws_eqByteS.f
  simp only [if_true]
  exact eqByteS_l0 l hl l.length 0 (by omega)
theorem specChunkFault_ev (a b : Int) (l : List Int) : Ev (fun k => spec_ChunkFault.f k a b l) (chunkF a b l) := by
  have hj : ∀ q : Bool, Ev (fun k => spec_ChunkFault.j0 k (!q) a b l) (if q = true then (if l.length > 160 then 2 else 0) else 3) := by
    intro q
    refine Ev.ret fun k => ?_
    simp only [spec_ChunkFault.j0]
    cases q
    · rfl
    · simp only [Bool.not_true, Bool.false_eq_true, if_false, if_true]
      by_cases h : l.length > 160
      · rw [if_pos (by omega), if_pos h]
      · rw [if_neg (by omega), if_neg h]
  unfold spec_ChunkFault.f chunkF
  simp only [l1In_eq, Option.bind_some]
  cases inB a 0 255
  · simp only [Bool.false_and, Bool.false_eq_true, if_false]; exact hj false
  · simp only [Bool.true_and, if_true]; exact hj _
theorem implChunkFault_ev (a b : Int) (l : List Int) : Ev (fun k => impl_ChunkFault.f k a b l) (chunkF a b l) := by
  have hj : ∀ q : Bool, Ev (fun k => impl_ChunkFault.j0 k (!q) a b l) (if q = true then (if l.length > 160 then 2 else 0) else 3) := by
    intro q
    refine Ev.ret fun k => ?_
    simp only [impl_ChunkFault.j0]
    cases q
    · rfl
    · simp only [Bool.not_true, Bool.false_eq_true, if_false, if_true]
      by_cases h : l.length > 160
      · rw [if_pos (by omega), if_pos h]
      · rw [if_neg (by omega), if_neg h]
  unfold impl_ChunkFault.f chunkF
  simp only [within_eq, Option.bind_some]
  cases inB a 0 255
  · simp only [Bool.false_and, Bool.false_eq_true, if_false]; exact hj false
  · simp only [Bool.true_and, if_true]; exact hj _
theorem blk_len {p : List Int} {m n : Nat} (hp : p.length = 64 * m) (hn : n < m) : ((p.take (64 * n + 64)).drop (64 * n)).length = 64 := by
  rw [List.length_drop, List.length_take]; omega
theorem blk_ifs {n m : Nat} (hm : m ≤ 1000) (hn : n < m) : ((64 * n : Nat) : Int) < ((64 * m : Nat) : Int) ∧ 0 ≤ ((64 * n : Nat) : Int) ∧ ((64 * n : Nat) : Int) ≤ ((64 * n + 64 : Nat) : Int) ∧ ((64 * n + 64 : Nat) : Int) ≤ ((64 * m : Nat) : Int) ∧ wrap64 (((64 * n : Nat) : Int) + 64) = ((64 * n + 64 : Nat) : Int) := by
  refine ⟨by omega, by omega, by omega, by omega, ?_⟩
  rw [w64 (by omega) (by omega)]; omega
theorem padded_64 (l : List Int) : (padded l).length = 64 * ((padded l).length / 64) := by
  rw [padded_length]; unfold zerosFor; omega
theorem padded_few {l : List Int} (h : l.length ≤ 700) : (padded l).length / 64 ≤ 1000 := by
  rw [padded_length]; unfold zerosFor; omega
theorem szByteS_big {l : List Int} (hl : l.length ≤ 9223372036854775807) {a : Int} (h0 : 0 ≤ a) (h1 : a ≤ 1048576) (h : a < (l.length : Int)) : laws_szByteS.f l a = some (-1) := by
  unfold laws_szByteS.f
  rw [w64 (by omega) (by omega), if_pos (by omega)]
theorem szByteS_ok {l : List Int} {a : Int} (h1 : a ≤ 1048576) (h : (l.length : Int) ≤ a) : laws_szByteS.f l a = some (a - (l.length : Int)) := by
  unfold laws_szByteS.f
  rw [w64 (by omega) (by omega), if_neg (by omega)]
theorem szChunk_big {a b : Int} {l : List Int} (hl : l.length ≤ 9223372036854775807) {n : Int} (h0 : 0 ≤ n) (h1 : n ≤ 1048576) (h : n < (l.length : Int)) : laws_szChunk.f a b l n = some (-1) := by
  unfold laws_szChunk.f
  rw [szByteS_big hl h0 h1 h]; rfl
theorem szChunk_ok {a b : Int} {l : List Int} {n : Int} (h1 : n ≤ 1048576) (h : (l.length : Int) ≤ n) : laws_szChunk.f a b l n = some (n - (l.length : Int)) := by
  unfold laws_szChunk.f
  rw [szByteS_ok h1 h]; simp only [Option.bind_some]
  rw [if_neg (by omega)]
theorem toChunk_ev (a b : Int) (l : List Int) (hl : l.length ≤ 281474976710656) : Ev (fun k => laws_toChunk.f k a b l) (a, b, l) := by
  unfold laws_toChunk.f
  exact Ev.bind (toByteS_ev l hl) (Ev.now _)
theorem eqChunk_self (a b : Int) (l : List Int) (hl : l.length ≤ 4611686018427387904) : Ev (fun k => laws_eqChunk.f k a b l a b l) true := by
  unfold laws_eqChunk.f
  exact Ev.pos rfl (Ev.pos rfl (Ev.bind (eqByteS_self l hl) (Ev.pos rfl (Ev.now _))))
theorem rdLC (xs : List S24) (i : Nat) (h : i < xs.length) : rd_T24 xs (i : Int) = xs[i] := by
  unfold rd_T24; rw [Int.toNat_natCast, List.getD_eq_getElem?_getD, List.getElem?_eq_getElem h]; rfl
theorem rdIC (xs : List S27) (i : Nat) (h : i < xs.length) : rd_T27 xs (i : Int) = xs[i] := by
  unfold rd_T27; rw [Int.toNat_natCast, List.getD_eq_getElem?_getD, List.getElem?_eq_getElem h]; rfl
def packS (c : S27) : List Int := packC c.f0 c.f1 c.f2
def faultS (c : S27) : Int := chunkF c.f0 c.f1 c.f2
def packsS (xs : List S27) : List Int := (xs.map packS).flatten
def firstF : List S27 → Int
  | [] => 0
  | c :: t => if faultS c = 0 then firstF t else faultS c
theorem firstF_mem {xs : List S27} (h : firstF xs = 0) : ∀ c ∈ xs, faultS c = 0 := by
  induction xs with
  | nil => intro c hc; cases hc
  | cons x t ih =>
    intro c hc
    unfold firstF at h
    by_cases h0 : faultS x = 0
    · rw [if_pos h0] at h
      rcases List.mem_cons.1 hc with rfl | hc
      · exact h0
      · exact ih h c hc
    · rw [if_neg h0] at h; exact absurd h h0
theorem faultS_len {c : S27} (h : faultS c = 0) : c.f2.length ≤ 160 := (chunkF_zero h).2.2
theorem packS_len {c : S27} (h : c.f2.length ≤ 160) : (packS c).length ≤ 167 := by
  unfold packS; rw [packC_length]; unfold padN; omega
theorem packsS_len {xs : List S27} (h : ∀ c ∈ xs, c.f2.length ≤ 160) : (packsS xs).length ≤ 167 * xs.length := by
  induction xs with
  | nil => exact Nat.le_refl _
  | cons x t ih =>
    have h1 := packS_len (h x (List.mem_cons_self ..))
    have h2 := ih fun c hc => h c (List.mem_cons_of_mem _ hc)
    unfold packsS at h2 ⊢
    rw [List.map_cons, List.flatten_cons, List.length_append, List.length_cons]
    omega
theorem szChunkS_l0 (xs : List S24) (hx : ∀ c ∈ xs, c.f2.length ≤ 9223372036854775807) (hn : xs.length ≤ 1048576) (d : Nat) : ∀ (i : Nat) (a : Int), i + d = xs.length → 0 ≤ a → a ≤ 1048576 → (∀ c ∈ xs.take i, c.f2.length ≤ 1048576) → ∃ v, Ev (fun k => laws_szChunkS.l0 k xs a (i : Int)) v ∧ (v < 0 ∨ 0 ≤ v ∧ v ≤ a ∧ ∀ c ∈ xs, c.f2.length ≤ 1048576) := by
  induction d with
  | zero =>
    intro i a h h0 h1 ht
    refine ⟨a, Ev.ret fun k => ?_, .inr ⟨h0, Int.le_refl _, ?_⟩⟩
    · simp only [laws_szChunkS.l0]; rw [if_neg (by omega)]
    · rw [List.take_of_length_le (by omega)] at ht; exact ht
  | succ d ih =>
    intro i a h h0 h1 ht
    have hi : i < xs.length := by omega
    have hr : rd_T24 xs (i : Int) = xs[i] := rdLC xs i hi
    have hw : wrap64 ((i : Int) + 1) = ((i + 1 : Nat) : Int) := w64_succ (by omega)
    have hmem : xs[i] ∈ xs := List.getElem_mem hi
    by_cases hb : a < (xs[i].f2.length : Int)
    · refine ⟨-1, Ev.step (fun k => by simp only [laws_szChunkS.l0, hr]; rfl) ?_, .inl (by omega)⟩
      exact Ev.pos (by omega) (Ev.pos (by omega) (Ev.bind (Ev.all fun _ => szChunk_big (hx _ hmem) h0 h1 hb) (Ev.pos (by decide) (Ev.now _))))
    · obtain ⟨v, h2, h3⟩ := ih (i + 1) (a - (xs[i].f2.length : Int)) (by omega) (by omega) (by omega) (by
        intro c hc
        rw [List.take_succ_eq_append_getElem hi] at hc
        rcases List.mem_append.1 hc with hc | hc
        · exact ht c hc
        · obtain rfl := List.mem_singleton.1 hc; omega)
      refine ⟨v, Ev.step (fun k => by simp only [laws_szChunkS.l0, hr, hw]; rfl) ?_, h3.imp id fun h => ⟨h.1, by have := h.2.1; omega, h.2.2⟩⟩
      exact Ev.pos (by omega) (Ev.pos (by omega) (Ev.bind (Ev.all fun _ => szChunk_ok h1 (by omega)) (Ev.neg (by omega) h2)))
theorem szChunkS_ev (xs : List S24) (hl : xs.length ≤ 9223372036854775807) (hx : ∀ c ∈ xs, c.f2.length ≤ 9223372036854775807) {a : Int} (a0 : 0 ≤ a) (a1 : a ≤ 1048576) : ∃ v, Ev (fun k => laws_szChunkS.f k xs a) v ∧ (v < 0 ∨ 0 ≤ v ∧ v ≤ a ∧ xs.length ≤ 1048576 ∧ ∀ c ∈ xs, c.f2.length ≤ 1048576) := by
  have hw : wrap64 (a - (xs.length : Int)) = a - (xs.length : Int) := w64 (by omega) (by omega)
  unfold laws_szChunkS.f
  simp only [hw]
  by_cases hb : a < (xs.length : Int)
  · exact ⟨-1, Ev.pos (by omega) (Ev.now _), .inl (by omega)⟩
  · obtain ⟨v, h1, h2⟩ := szChunkS_l0 xs hx (by omega) xs.length 0 (a - (xs.length : Int)) (by omega) (by omega) (by omega) (by intro c hc; rw [List.take_zero] at hc; cases hc)
    exact ⟨v, Ev.neg (by omega) h1, h2.imp id fun h => ⟨h.1, by omega, by omega, h.2.2⟩⟩
def toI (c : S24) : S27 := ⟨c.f0, c.f1, c.f2⟩
theorem toChunkS_l0 (l : List S24) (hx : ∀ c ∈ l, c.f2.length ≤ 1048576) (hn : l.length ≤ 1048576) (d : Nat) : ∀ (i : Nat) (x : List S27), i + d = l.length → x.length = l.length → x.take i = (l.map toI).take i → Ev (fun k => laws_toChunkS.l0 k l x (i : Int)) (l.map toI) := by
  induction d with
  | zero =>
    intro i x h hxl ht
    rw [List.take_of_length_le (by omega), List.take_of_length_le (by rw [List.length_map]; omega)] at ht
    subst ht
    exact Ev.ret fun k => by simp only [laws_toChunkS.l0]; rw [if_neg (by omega)]
  | succ d ih =>
    intro i x h hxl ht
    have hi : i < l.length := by omega
    have him : i < (l.map toI).length := by rw [List.length_map]; exact hi
    have hr : rd_T24 l (i : Int) = l[i] := rdLC l i hi
    have hw : wrap64 ((i : Int) + 1) = ((i + 1 : Nat) : Int) := w64_succ (by omega)
    have hv : (l.map toI)[i] = (⟨l[i].f0, l[i].f1, l[i].f2⟩ : S27) := by rw [List.getElem_map]; rfl
    have hs := take_set_succ x (l.map toI) i (by omega) him ht
    rw [hv] at hs
    have h2 := ih (i + 1) (x.set i (⟨l[i].f0, l[i].f1, l[i].f2⟩ : S27)) (by omega) (by rw [List.length_set]; exact hxl) hs
    refine Ev.step (fun k => by simp only [laws_toChunkS.l0, hr, hw, Int.toNat_natCast]; rfl) ?_
    exact Ev.pos (by omega) (Ev.pos (by omega) (Ev.bind (toChunk_ev l[i].f0 l[i].f1 l[i].f2 (by have := hx _ (List.getElem_mem hi); omega)) (Ev.pos (by omega) h2)))
theorem toChunkS_ev (l : List S24) (hx : ∀ c ∈ l, c.f2.length ≤ 1048576) (hn : l.length ≤ 1048576) : Ev (fun k => laws_toChunkS.f k l) (l.map toI) := by
  have h := toChunkS_l0 l hx hn l.length 0 (List.replicate l.length z27) (by omega) (by simp) (by simp)
  unfold laws_toChunkS.f
  simp only [Int.toNat_natCast]
  exact Ev.pos (by omega) (Ev.pos (by omega) h)
theorem eqChunkS_l0 (l : List S27) (hx : ∀ c ∈ l, c.f2.length ≤ 1048576) (hn : l.length ≤ 1048576) (d : Nat) : ∀ (i : Nat), i + d = l.length → Ev (fun k => laws_eqChunkS.l0 k l l (i : Int)) true := by
  induction d with
  | zero =>
    intro i h
    exact Ev.ret fun k => by simp only [laws_eqChunkS.l0]; rw [if_neg (by omega)]
  | succ d ih =>
    intro i h
    have hi : i < l.length := by omega
    have hr : rd_T27 l (i : Int) = l[i] := rdIC l i hi
    have hw : wrap64 ((i : Int) + 1) = ((i + 1 : Nat) : Int) := w64_succ (by omega)
    refine Ev.step (fun k => by simp only [laws_eqChunkS.l0, hr, hw]; rfl) ?_
    exact Ev.pos (by omega) (Ev.pos (by omega) (Ev.pos (by omega) (Ev.bind (eqChunk_self _ _ _ (by have := hx _ (List.getElem_mem hi); omega)) (Ev.pos rfl (ih (i + 1) (by omega))))))
theorem eqChunkS_self (l : List S27) (hx : ∀ c ∈ l, c.f2.length ≤ 1048576) (hn : l.length ≤ 1048576) : Ev (fun k => laws_eqChunkS.f k l l) true := by
  unfold laws_eqChunkS.f
  exact Ev.pos rfl (eqChunkS_l0 l hx hn l.length 0 (by omega))
def pktF (t : Int) (xs : List S27) : Int := if isWd t = true then (if 1 ≤ xs.length ∧ xs.length ≤ 8 then (if firstF xs = 0 then (if 8 + (packsS xs).length > 500 then 2 else 0) else firstF xs) else 2) else 3
def allSame : List S27 → List S27 → Bool
  | x :: xs, y :: ys => if x.f0 = y.f0 then (if x.f1 = y.f1 then (if x.f2 = y.f2 then allSame xs ys else false) else false) else false
  | _, _ => true
def sameCs (xs ys : List S27) : Bool := if xs.length = ys.length then allSame xs ys else false
def chF (xs : List S27) : Int := if xs.length > 8 then 2 else firstF xs
theorem l7Chunks_l0 (xs : List S27) (hn : xs.length ≤ 8) (d : Nat) : ∀ i : Nat, i + d = xs.length → Ev (fun k => spec_l7Chunks.l0 k xs (i : Int)) (firstF (xs.drop i)) := by
  induction d with
  | zero =>
    intro i h
    rw [List.drop_of_length_le (by omega)]
    exact Ev.ret fun k => by simp only [spec_l7Chunks.l0]; rw [if_neg (by omega)]; rfl
  | succ d ih =>
    intro i h
    have hi : i < xs.length := by omega
    have hr : rd_T27 xs (i : Int) = xs[i] := rdIC xs i hi
    have hw : wrap64 ((i : Int) + 1) = ((i + 1 : Nat) : Int) := w64_succ (by omega)
    rw [drop_cons xs i hi]
    refine Ev.step (fun k => by simp only [spec_l7Chunks.l0, hr, hw]; rfl) (Ev.pos (by omega) (Ev.pos (by omega) (Ev.bind (specChunkFault_ev _ _ _) ?_)))
    show Ev _ (if faultS xs[i] = 0 then firstF (xs.drop (i + 1)) else faultS xs[i])
    by_cases h0 : faultS xs[i] = 0
    · rw [if_pos h0]; exact Ev.pos h0 (ih (i + 1) (by omega))
    · rw [if_neg h0]; exact Ev.neg h0 (Ev.now _)
theorem l7Chunks_ev (xs : List S27) : Ev (fun k => spec_l7Chunks.f k xs 8) (chF xs) := by
  unfold spec_l7Chunks.f chF
  by_cases h : xs.length > 8
  · rw [if_pos h]; exact Ev.pos (by omega) (Ev.now _)
  · rw [if_neg h]; exact Ev.neg (by omega) (l7Chunks_l0 xs (by omega) xs.length 0 (by omega))
theorem chunksCode_l0 (xs : List S27) (hn : xs.length ≤ 8) (d : Nat) : ∀ i : Nat, i + d = xs.length → Ev (fun k => impl_chunksCode.l0 k xs (xs.length : Int) (i : Int)) (firstF (xs.drop i)) := by
  induction d with
  | zero =>
    intro i h
    rw [List.drop_of_length_le (by omega)]
    exact Ev.ret fun k => by simp only [impl_chunksCode.l0]; rw [if_neg (by omega)]; rfl
  | succ d ih =>
    intro i h
    have hi : i < xs.length := by omega
    have hr : rd_T27 xs (i : Int) = xs[i] := rdIC xs i hi
    have hw : wrap64 ((i : Int) + 1) = ((i + 1 : Nat) : Int) := w64_succ (by omega)
    rw [drop_cons xs i hi]
    refine Ev.step (fun k => by simp only [impl_chunksCode.l0, hr, hw]; rfl) (Ev.pos (by omega) (Ev.pos (by omega) (Ev.pos (by omega) (Ev.bind (implChunkFault_ev _ _ _) ?_))))
    show Ev _ (if faultS xs[i] = 0 then firstF (xs.drop (i + 1)) else faultS xs[i])
    by_cases h0 : faultS xs[i] = 0
    · rw [if_pos h0]; exact Ev.pos h0 (ih (i + 1) (by omega))
    · rw [if_neg h0]; exact Ev.neg h0 (Ev.now _)
theorem chunksCode_ev (xs : List S27) : Ev (fun k => impl_chunksCode.f k xs 8) (chF xs) := by
  unfold impl_chunksCode.f chF
  by_cases h : xs.length > 8
  · rw [if_pos h]; exact Ev.pos (by omega) (Ev.now _)
  · rw [if_neg h]; exact Ev.neg (by omega) (chunksCode_l0 xs (by omega) xs.length 0 (by omega))
def oneA (c : S27) (j : Int) : Int × Int × Int := if c.f1 = 0 then (if (c.f2.length : Int) = 34 then (if rd c.f2 0 * 256 + rd c.f2 1 > 99 then (5, 0, 0) else (0, rd c.f2 1, j + 1)) else (5, 0, 0)) else (5, 0, 0)
theorem oneA_a {c : S27} {j : Int} (h : ¬ c.f1 = 0) : oneA c j = (5, 0, 0) := by unfold oneA; rw [if_neg h]
theorem oneA_b {c : S27} {j : Int} (h : c.f1 = 0) (h2 : ¬ (c.f2.length : Int) = 34) : oneA c j = (5, 0, 0) := by unfold oneA; rw [if_pos h, if_neg h2]
theorem oneA_c {c : S27} {j : Int} (h : c.f1 = 0) (h2 : (c.f2.length : Int) = 34) (h3 : rd c.f2 0 * 256 + rd c.f2 1 > 99) : oneA c j = (5, 0, 0) := by unfold oneA; rw [if_pos h, if_pos h2, if_pos h3]
theorem oneA_d {c : S27} {j : Int} (h : c.f1 = 0) (h2 : (c.f2.length : Int) = 34) (h3 : ¬ rd c.f2 0 * 256 + rd c.f2 1 > 99) : oneA c j = (0, rd c.f2 1, j + 1) := by unfold oneA; rw [if_pos h, if_pos h2, if_neg h3]
def findR : List S27 → Int → Int × Int × Int
  | [], _ => (4, 0, 0)
  | c :: t, i => if c.f0 = 15 then oneA c i else findR t (i + 1)
def idxA : List S27 → Int → Int
  | [], _ => -1
  | c :: t, i => if c.f0 = 15 then i else idxA t (i + 1)
theorem idxA_findR (xs : List S27) : ∀ i : Int, (idxA xs i = -1 ∧ findR xs i = (4, 0, 0)) ∨ ∃ (j : Nat) (h : j < xs.length), idxA xs i = i + j ∧ findR xs i = oneA xs[j] (i + j) := by
  induction xs with
  | nil => intro i; exact .inl ⟨rfl, rfl⟩
  | cons c t ih =>
    intro i
    unfold idxA findR
    by_cases h : c.f0 = 15
    · rw [if_pos h, if_pos h]
      exact .inr ⟨0, by simp, by simp, by simp⟩
    · rw [if_neg h, if_neg h]
      rcases ih (i + 1) with h1 | ⟨j, hj, h1, h2⟩
      · exact .inl h1
      · refine .inr ⟨j + 1, by simp; omega, by rw [h1]; omega, ?_⟩
        rw [h2, List.getElem_cons_succ]
        congr 1; omega
def findA (xs : List S27) : Int × Int × Int := if chF xs = 0 then findR xs 0 else (chF xs, 0, 0)
theorem w64_byte {b : Int} (h : 0 ≤ b ∧ b ≤ 255) : wrap64 b = b := w64 (by omega) (by omega)
theorem w64_up {b : Int} (h : 0 ≤ b ∧ b ≤ 255) : wrap64 (b * 256) = b * 256 := w64 (by omega) (by omega)
theorem w64_b {b : Int} (h : 0 ≤ b ∧ b ≤ 255) : wrap64 b = b := w64 (by omega) (by omega)
theorem w64_b2 {b : Int} (h : 0 ≤ b ∧ b ≤ 255) : wrap64 (b * 256) = b * 256 := w64 (by omega) (by omega)
theorem l1PairAt_eq {l : List Int} (hb : Bytes l) (hl : (l.length : Int) = 34) : spec_l1PairAt.f l 0 = some (rd l 0 * 256 + rd l 1) := by
  have b0 := hb.rd 0
  have b1 := hb.rd 1
  unfold spec_l1PairAt.f
  have h1 : wrap64 (0 + 1) = 1 := w64 (by omega) (by omega)
  rw [h1, if_pos (by omega), if_pos (by omega), if_pos (by omega), if_pos (by omega), w64_b b0, w64_b b1, w64_b2 b0, w64 (by omega) (by omega)]
theorem specFindAuth_l0 (xs : List S27) (hx : ∀ c ∈ xs, Bytes c.f2) (hn : xs.length ≤ 1000) (d : Nat) : ∀ i : Nat, i + d = xs.length → Ev (fun k => spec_FindAuth.l0 k xs (i : Int)) (findR (xs.drop i) i) := by
  induction d with
  | zero =>
    intro i h
    rw [List.drop_of_length_le (by omega)]
    exact Ev.ret fun k => by simp only [spec_FindAuth.l0]; rw [if_neg (by omega)]; rfl
  | succ d ih =>
    intro i h
    have hi : i < xs.length := by omega
    have hr : rd_T27 xs (i : Int) = xs[i] := rdIC xs i hi
    have hw : wrap64 ((i : Int) + 1) = ((i + 1 : Nat) : Int) := w64_succ (by omega)
    have hb := hx _ (List.getElem_mem hi)
    rw [drop_cons xs i hi]
    refine Ev.step (fun k => by simp only [spec_FindAuth.l0, hr, hw]; rfl) (Ev.pos (by omega) (Ev.pos (by omega) ?_))
    have b0 := hb.rd 0
    have b1 := hb.rd 1
    unfold findR
    by_cases h0 : xs[i].f0 = 15
    · rw [if_pos h0]
      refine Ev.pos h0 ?_
      by_cases h1 : xs[i].f1 = 0
      · refine Ev.pos h1 ?_
        by_cases h2 : (xs[i].f2.length : Int) = 34
        · refine Ev.pos h2 (Ev.bind (Ev.all fun _ => l1PairAt_eq hb h2) ?_)
          by_cases h3 : rd xs[i].f2 0 * 256 + rd xs[i].f2 1 > 99
          · rw [oneA_c h1 h2 h3]; exact Ev.pos h3 (Ev.now _)
          · rw [oneA_d h1 h2 h3]
            refine Ev.neg h3 (Ev.bind (Ev.all fun _ => l1PairAt_eq hb h2) ?_)
            have e : rd xs[i].f2 0 * 256 + rd xs[i].f2 1 = rd xs[i].f2 1 := by omega
            rw [e, show ((i + 1 : Nat) : Int) = (i : Int) + 1 by omega]; exact Ev.now _
        · rw [oneA_b h1 h2]; exact Ev.neg h2 (Ev.now _)
      · rw [oneA_a h1]; exact Ev.neg h1 (Ev.now _)
    · rw [if_neg h0]
      have e := ih (i + 1) (by omega)
      rw [show ((i + 1 : Nat) : Int) = (i : Int) + 1 by omega] at e ⊢
      exact Ev.neg h0 e
theorem specFindAuth_ev (xs : List S27) (hx : ∀ c ∈ xs, Bytes c.f2) (hn : xs.length ≤ 1048576) : Ev (fun k => spec_FindAuth.f k xs) (findA xs) := by
  unfold spec_FindAuth.f findA
  refine Ev.bind (l7Chunks_ev xs) ?_
  by_cases h : chF xs = 0
  · rw [if_pos h]
    have h8 : xs.length ≤ 8 := by
      unfold chF at h
      by_cases h2 : xs.length > 8
      · rw [if_pos h2] at h; exact absurd h (by decide)
      · omega
    exact Ev.pos h (specFindAuth_l0 xs hx (by omega) xs.length 0 (by omega))
  · rw [if_neg h]; exact Ev.neg h (Ev.now _)
theorem IndexA_l0 (xs : List S27) (hn : xs.length ≤ 1048576) (d : Nat) : ∀ i : Nat, i + d = xs.length → Ev (fun k => impl_Chunk.l0 k xs (xs.length : Int) (i : Int)) (idxA (xs.drop i) i) := by
  induction d with
  | zero =>
    intro i h
    rw [List.drop_of_length_le (by omega)]
    exact Ev.ret fun k => by simp only [impl_Chunk.l0]; rw [if_neg (by omega)]; rfl
  | succ d ih =>
    intro i h
    have hi : i < xs.length := by omega
    have hr : rd_T27 xs (i : Int) = xs[i] := rdIC xs i hi
    have hw : wrap64 ((i : Int) + 1) = ((i + 1 : Nat) : Int) := w64_succ (by omega)
    rw [drop_cons xs i hi]
    refine Ev.step (fun k => by simp only [impl_Chunk.l0, hr, hw, impl_FindAuth_1.f, Option.bind_some]; rfl) (Ev.pos (by omega) (Ev.pos (by omega) (Ev.pos (by omega) ?_)))
    unfold idxA
    by_cases h0 : xs[i].f0 = 15
    · rw [if_pos h0]; exact Ev.pos (beq_iff_eq.2 h0) (Ev.now _)
    · rw [if_neg h0]
      have e := ih (i + 1) (by omega)
      rw [show ((i + 1 : Nat) : Int) = (i : Int) + 1 by omega] at e ⊢
      exact Ev.neg (fun e => h0 (beq_iff_eq.1 e)) e
theorem IndexA_ev (xs : List S27) (hn : xs.length ≤ 1048576) : Ev (fun k => impl_Chunk.f k xs) (idxA xs 0) := by
  unfold impl_Chunk.f
  exact IndexA_l0 xs hn xs.length 0 (by omega)
theorem isId_eq (n : Int) : impl_isId.f n = some (inB n 0 99) := by unfold impl_isId.f; rw [within_eq]; rfl
theorem implFindAuth_ev (xs : List S27) (hx : ∀ c ∈ xs, Bytes c.f2) (hn : xs.length ≤ 1048576) : Ev (fun k => impl_FindAuth.f k xs) (findA xs) := by
  unfold impl_FindAuth.f findA
  refine Ev.bind (chunksCode_ev xs) ?_
  by_cases h : chF xs = 0
  · rw [if_pos h]
    refine Ev.pos h (Ev.bind (IndexA_ev xs hn) ?_)
    rcases idxA_findR xs 0 with ⟨h1, h2⟩ | ⟨j, hj, h1, h2⟩
    · rw [h1, h2]; exact Ev.pos (by decide) (Ev.now _)
    · rw [h1, h2, Int.zero_add]
      have hr : rd_T27 xs (j : Int) = xs[j] := rdIC xs j hj
      have hw : wrap64 ((j : Int) + 1) = (j : Int) + 1 := w64 (by omega) (by omega)
      have hb := hx _ (List.getElem_mem hj)
      have b0 := hb.rd 0
      have b1 := hb.rd 1
      rw [hr, hw, w64_byte b0, w64_byte b1, w64_up b0]
      refine Ev.neg (by omega) (Ev.pos (by omega) (Ev.pos (by omega) ?_))
      by_cases h1 : xs[j].f1 = 0
      · refine Ev.pos h1 ?_
        by_cases h2 : (xs[j].f2.length : Int) = 34
        · have hbits : Go.bits .or .i64 (rd xs[j].f2 0 * 256) (rd xs[j].f2 1) = rd xs[j].f2 0 * 256 + rd xs[j].f2 1 := bor_add 8 (by omega) (by omega) (by omega) (by omega) (by omega) (by omega)
          rw [hbits]
          refine Ev.pos h2 (Ev.pos (by omega) (Ev.pos (by omega) (Ev.bind (Ev.all fun _ => isId_eq _) ?_)))
          by_cases h3 : rd xs[j].f2 0 * 256 + rd xs[j].f2 1 > 99
          · rw [oneA_c h1 h2 h3]; exact Ev.neg (fun e => by have := inB_true.1 e; omega) (Ev.now _)
          · rw [oneA_d h1 h2 h3]; exact Ev.pos (inB_true.2 (by omega)) (Ev.now _)
        · rw [oneA_b h1 h2]; exact Ev.neg h2 (Ev.now _)
      · rw [oneA_a h1]; exact Ev.neg h1 (Ev.now _)
  · rw [if_neg h]; exact Ev.neg h (Ev.now _)
theorem eqAuthResult_self (a b c : Int) : laws_eqAuthResult.f a b c a b c = some true := by
  unfold laws_eqAuthResult.f
  rw [if_pos rfl, if_pos rfl, if_pos rfl]
theorem FnExactFindAuth : laws_FnExactFindAuth.Pure := by
  intro l hl
  have hx : ∀ c ∈ l, c.f2.length ≤ 9223372036854775807 := fun c hc => (hl.2 c hc).2.2.1
  apply Ev.rounds
  unfold laws_FnExactFindAuth.f
  obtain ⟨v, hv, h⟩ := szChunkS_ev l hl.1 hx (a := 1048576) (by omega) (by omega)
  rcases h with h | ⟨h0, hv1, hn, hc⟩
  · exact Ev.bind hv (Ev.pos h (Ev.now _))
  have kl : ∀ c ∈ l.map toI, c.f2.length ≤ 1048576 := by
    intro c hc2; obtain ⟨x, hx, rfl⟩ := List.mem_map.1 hc2; exact hc x hx
  have bl : ∀ c ∈ l.map toI, Bytes c.f2 := by
    intro c hc2; obtain ⟨x, hx, rfl⟩ := List.mem_map.1 hc2; exact Bytes.of_wf (hl.2 x hx).2.2.2
  have nl : (l.map toI).length ≤ 1048576 := by rw [List.length_map]; exact hn
  have hT := toChunkS_ev l hc hn
  refine Ev.bind hv (Ev.neg (by omega) (Ev.bind hT (Ev.bind (specFindAuth_ev _ bl nl) (Ev.bind hT (Ev.bind (implFindAuth_ev _ bl nl) (Ev.bind (Ev.all fun _ => eqAuthResult_self _ _ _) (Ev.pos rfl ?_)))))))
  exact Ev.bind hT (Ev.bind (eqChunkS_self _ kl nl) (Ev.pos rfl (Ev.now _)))
end FnExactFindAuth_
theorem FnExactFindAuth : laws_FnExactFindAuth.Pure := FnExactFindAuth_.FnExactFindAuth
end Go.Proofs.Ytglphklcfpgjbaa.Pure
