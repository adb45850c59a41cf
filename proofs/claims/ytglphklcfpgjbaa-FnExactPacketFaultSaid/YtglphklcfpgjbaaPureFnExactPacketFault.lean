/- The pure statement of FnExactPacketFault: what the printed functions of the program and of the reference compute makes the law answer true, for all arguments (each number of its kind). -/
import Derived.Test.YtglphklcfpgjbaaPFnExactPacketFaultx5
import Derived.Test.YtglphklcfpgjbaaBase
set_option linter.unusedVariables false
set_option linter.unusedSimpArgs false
namespace Go.Proofs.Ytglphklcfpgjbaa.Pure
open Go.RowKit Go.Proofs.Ytglphklcfpgjbaa.PFnExactPacketFault Go.Proofs.YtglphklcfpgjbaaW.PrintWords Go.Proofs.YtglphklcfpgjbaaW.PrintLast Go.Proofs.YtglphklcfpgjbaaW.PrintMore Go.Proofs.Ytglphklcfpgjbaa.Base
namespace FnExactPacketFault_
theorem l1In_eq (a b c : Int) : spec_l1In.f a b c = some (inB a b c) := ge_le
theorem within_eq (a b c : Int) : impl_within.f a b c = some (inB a b c) := ge_le
theorem l1Word32_eq (a : Int) : spec_l1Word32.f a = some (isWd a) := by
  unfold spec_l1Word32.f; rw [l1In_eq]; rfl
theorem isWord_eq (a : Int) : impl_isWord.f a = some (isWd a) := by
  unfold impl_isWord.f; rw [within_eq]; rfl
theorem toByteS_l0 (l : List Int) (hl : l.length ≤ 281474976710656) (d : Nat) : ∀ (i : Nat) (x : List Int), i + d = l.length → x.length = l.length → x.take i = l.take i → Ev (fun k => laws_toByteS.l0 k l x (i : Int)) l := by
  induction d with
  | zero =>
    intro i x h hx ht
    have e : x = l := by
      rw [List.take_of_length_le (by omega), List.take_of_length_le (by omega)] at ht
      exact ht
    subst e
    exact Ev.ret fun k => by simp only [laws_toByteS.l0]; rw [if_neg (by omega)]
  | succ d ih =>
    intro i x h hx ht
    have hi : i < l.length := by omega
    refine Ev.step (f := fun k => laws_toByteS.l0 k l (x.set i l[i]) ((i + 1 : Nat) : Int)) (fun k => ?_) ?_
    · simp only [laws_toByteS.l0]
      rw [if_pos (by omega), if_pos (by omega), if_pos (by omega), rd_nat l i hi, w64 (by omega) (by omega)]
      simp only [Int.toNat_natCast]; rfl
    · refine ih (i + 1) _ (by omega) (by rw [List.length_set]; exact hx) ?_
      rw [List.take_succ_eq_append_getElem (by rw [List.length_set]; omega), List.take_succ_eq_append_getElem hi, List.getElem_set_self, List.take_set_of_le (by omega), ht]
theorem toByteS_ev (l : List Int) (hl : l.length ≤ 281474976710656) : Ev (fun k => laws_toByteS.f k l) l := by
  unfold laws_toByteS.f
  simp only [if_pos (show (0 : Int) ≤ (l.length : Int) by omega), if_pos (show ((l.length : Int) : Int).toNat ≤ 281474976710656 by omega)]
  exact toByteS_l0 l hl l.length 0 _ (by omega) (by simp) (by simp)
theorem eqByteS_l0 (l : List Int) (hl : l.length ≤ 4611686018427387904) (d : Nat) : ∀ i : Nat, i + d = l.length → Ev (fun k => laws_eqByteS.l0 k l l (i : Int)) true := by
  induction d with
  | zero =>
    intro i h
    exact Ev.ret fun k => by simp only [laws_eqByteS.l0]; rw [if_neg (by omega)]
  | succ d ih =>
    intro i h
    refine Ev.step (f := fun k => laws_eqByteS.l0 k l l ((i + 1 : Nat) : Int)) (fun k => ?_) (ih (i + 1) (by omega))
    simp only [laws_eqByteS.l0]
    rw [if_pos (by omega), if_pos (by omega), if_pos (by omega), if_pos (by trivial), w64 (by omega) (by omega)]; rfl
theorem eqByteS_self (l : List Int) (hl : l.length ≤ 4611686018427387904) : Ev (fun k => laws_eqByteS.f k l l) true := by
  unfold laws_eqByteS.f
  simp only [if_true]
  exact eqByteS_l0 l hl l.length 0 (by omega)
theorem l1Pack_eq {w : Int} (hw : Wd w) : spec_l1Pack.f w = some (pack4 w) := by
  obtain ⟨_, _⟩ := hw
  unfold spec_l1Pack.f pack4
  rw [Int.tdiv_eq_ediv_of_nonneg (by omega), Int.tdiv_eq_ediv_of_nonneg (by omega), Int.tdiv_eq_ediv_of_nonneg (by omega), w64 (x := w / 16777216) (by omega) (by omega), w64 (x := w / 65536) (by omega) (by omega), w64 (x := w / 256) (by omega) (by omega), Int.tmod_eq_emod_of_nonneg (by omega), Int.tmod_eq_emod_of_nonneg (by omega), Int.tmod_eq_emod_of_nonneg (by omega)]
  simp only [Int.emod_emod]
theorem specChunkFault_ev (a b : Int) (l : List Int) : Ev (fun k => spec_ChunkFault.f k a b l) (chunkF a b l) := by
  have hj : ∀ q : Bool, Ev (fun k => spec_ChunkFault.j0 k (!q) a b l) (if q = true then (if l.length > 160 then 2 else 0) else 3) := by
    intro q
    refine Ev.ret fun k => ?_
    simp only [spec_ChunkFault.j0]
    cases q
    · rfl
    · simp only [Bool.not_true, Bool.false_eq_true, if_false, if_true]
      by_cases h : l.length > 160
      · rw [if_pos (by omega), if_pos h]
      · rw [if_neg (by omega), if_neg h]
  unfold spec_ChunkFault.f chunkF
  simp only [l1In_eq, Option.bind_some]
  cases inB a 0 255
  · simp only [Bool.false_and, Bool.false_eq_true, if_false]; exact hj false
  · simp only [Bool.true_and, if_true]; exact hj _
theorem implChunkFault_ev (a b : Int) (l : List Int) : Ev (fun k => impl_ChunkFault.f k a b l) (chunkF a b l) := by
  have hj : ∀ q : Bool, Ev (fun k => impl_ChunkFault.j0 k (!q) a b l) (if q = true then (if l.length > 160 then 2 else 0) else 3) := by
    intro q
    refine Ev.ret fun k => ?_
    simp only [impl_ChunkFault.j0]
    cases q
    · rfl
    · simp only [Bool.not_true, Bool.false_eq_true, if_false, if_true]
      by_cases h : l.length > 160
      · rw [if_pos (by omega), if_pos h]
      · rw [if_neg (by omega), if_neg h]
  unfold impl_ChunkFault.f chunkF
  simp only [within_eq, Option.bind_some]
  cases inB a 0 255
  · simp only [Bool.false_and, Bool.false_eq_true, if_false]; exact hj false
  · simp only [Bool.true_and, if_true]; exact hj _
theorem packChunk_l0 (d : Nat) : ∀ x : List Int, padN x.length = d → x.length ≤ 1000000 → Ev (fun k => impl_packChunk.l0 k x) (x ++ List.replicate d 0) := by
  induction d with
  | zero =>
    intro x h hl
    refine Ev.ret fun k => ?_
    simp only [impl_packChunk.l0]
    rw [if_pos (by unfold padN at h; omega)]; simp
  | succ d ih =>
    intro x h hl
    have e : x ++ List.replicate (d + 1) 0 = x ++ [0] ++ List.replicate d 0 := by rw [List.append_assoc, List.replicate_succ, List.singleton_append]
    rw [e]
    have hx : (x ++ [0] : List Int).length = x.length + 1 := by simp
    have hp : padN x.length ≤ 3 := by unfold padN; omega
    refine Ev.step (fun k => ?_) (ih (x ++ [0]) (by rw [hx]; unfold padN at h ⊢; omega) ?_)
    · simp only [impl_packChunk.l0]
      rw [if_neg (by unfold padN at h; omega), if_pos (by omega)]
    · rw [hx]
      by_cases hz : x.length = 1000000
      · rw [hz] at h; unfold padN at h; omega
      · omega
theorem packChunk_ev (a b : Int) (l : List Int) (hl : l.length ≤ 100000) : Ev (fun k => impl_packChunk.f k a b l) (packC a b l) := by
  unfold impl_packChunk.f
  have hw : wrap64 ((l.length : Int) + 4) = (l.length : Int) + 4 := w64 (by omega) (by omega)
  simp only [Option.bind_some, hw]
  refine Ev.pos (by simp; omega) ?_
  have := packChunk_l0 (padN l.length) ([a % 256, b % 256, ((l.length : Int) + 4) / 256 % 256, ((l.length : Int) + 4) % 256] ++ l) (by simp; unfold padN; omega) (by simp; omega)
  exact this
theorem blk_len {p : List Int} {m n : Nat} (hp : p.length = 64 * m) (hn : n < m) : ((p.take (64 * n + 64)).drop (64 * n)).length = 64 := by
  rw [List.length_drop, List.length_take]; omega
theorem blk_ifs {n m : Nat} (hm : m ≤ 1000) (hn : n < m) : ((64 * n : Nat) : Int) < ((64 * m : Nat) : Int) ∧ 0 ≤ ((64 * n : Nat) : Int) ∧ ((64 * n : Nat) : Int) ≤ ((64 * n + 64 : Nat) : Int) ∧ ((64 * n + 64 : Nat) : Int) ≤ ((64 * m : Nat) : Int) ∧ wrap64 (((64 * n : Nat) : Int) + 64) = ((64 * n + 64 : Nat) : Int) := by
  refine ⟨by omega, by omega, by omega, by omega, ?_⟩
  rw [w64 (by omega) (by omega)]; omega
theorem padded_64 (l : List Int) : (padded l).length = 64 * ((padded l).length / 64) := by
  rw [padded_length]; unfold zerosFor; omega
theorem padded_few {l : List Int} (h : l.length ≤ 700) : (padded l).length / 64 ≤ 1000 := by
  rw [padded_length]; unfold zerosFor; omega
theorem szByteS_big {l : List Int} (hl : l.length ≤ 9223372036854775807) {a : Int} (h0 : 0 ≤ a) (h1 : a ≤ 1048576) (h : a < (l.length : Int)) : laws_szByteS.f l a = some (-1) := by
  unfold laws_szByteS.f
  rw [w64 (by omega) (by omega), if_pos (by omega)]
theorem szByteS_ok {l : List Int} {a : Int} (h1 : a ≤ 1048576) (h : (l.length : Int) ≤ a) : laws_szByteS.f l a = some (a - (l.length : Int)) := by
  unfold laws_szByteS.f
  rw [w64 (by omega) (by omega), if_neg (by omega)]
theorem szChunk_big {a b : Int} {l : List Int} (hl : l.length ≤ 9223372036854775807) {n : Int} (h0 : 0 ≤ n) (h1 : n ≤ 1048576) (h : n < (l.length : Int)) : laws_szChunk.f a b l n = some (-1) := by
  unfold laws_szChunk.f
  rw [szByteS_big hl h0 h1 h]; rfl
theorem szChunk_ok {a b : Int} {l : List Int} {n : Int} (h1 : n ≤ 1048576) (h : (l.length : Int) ≤ n) : laws_szChunk.f a b l n = some (n - (l.length : Int)) := by
  unfold laws_szChunk.f
  rw [szByteS_ok h1 h]; simp only [Option.bind_some]
  rw [if_neg (by omega)]
theorem toChunk_ev (a b : Int) (l : List Int) (hl : l.length ≤ 281474976710656) : Ev (fun k => laws_toChunk.f k a b l) (a, b, l) := by
  unfold laws_toChunk.f
  exact Ev.bind (toByteS_ev l hl) (Ev.now _)
theorem eqChunk_self (a b : Int) (l : List Int) (hl : l.length ≤ 4611686018427387904) : Ev (fun k => laws_eqChunk.f k a b l a b l) true := by
  unfold laws_eqChunk.f
  exact Ev.pos rfl (Ev.pos rfl (Ev.bind (eqByteS_self l hl) (Ev.pos rfl (Ev.now _))))
theorem l1Pair_eq {n : Int} (h0 : 0 ≤ n) (h1 : n ≤ 4294967295) : spec_l1Pair.f n = some [n / 256 % 256, n % 256] := by
  unfold spec_l1Pair.f
  rw [Int.tdiv_eq_ediv_of_nonneg h0, w64 (by omega) (by omega), Int.tmod_eq_emod_of_nonneg h0, Int.emod_emod]
theorem l4Chunk_l0 (d : Nat) : ∀ x : List Int, padN x.length = d → x.length ≤ 1000000 → Ev (fun k => spec_l4Chunk.l0 k x) (x ++ List.replicate d 0) := by
  induction d with
  | zero =>
    intro x h hl
    refine Ev.ret fun k => ?_
    simp only [spec_l4Chunk.l0]
    rw [if_pos (by unfold padN at h; omega)]; simp
  | succ d ih =>
    intro x h hl
    have e : x ++ List.replicate (d + 1) 0 = x ++ [0] ++ List.replicate d 0 := by rw [List.append_assoc, List.replicate_succ, List.singleton_append]
    rw [e]
    have hx : (x ++ [0] : List Int).length = x.length + 1 := by simp
    have hp : padN x.length ≤ 3 := by unfold padN; omega
    refine Ev.step (fun k => ?_) (ih (x ++ [0]) (by rw [hx]; unfold padN at h ⊢; omega) ?_)
    · simp only [spec_l4Chunk.l0]
      rw [if_neg (by unfold padN at h; omega), if_pos (by omega)]
    · rw [hx]
      by_cases hz : x.length = 1000000
      · rw [hz] at h; unfold padN at h; omega
      · omega
theorem l4Chunk_ev (a b : Int) (l : List Int) (hl : l.length ≤ 100000) : Ev (fun k => spec_l4Chunk.f k a b l) (packC a b l) := by
  unfold spec_l4Chunk.f
  have hw : wrap64 ((l.length : Int) + 4) = (l.length : Int) + 4 := w64 (by omega) (by omega)
  simp only [Option.bind_some, hw, l1Pair_eq (n := (l.length : Int) + 4) (by omega) (by omega)]
  refine Ev.pos (by simp) (Ev.pos (by simp; omega) ?_)
  have := l4Chunk_l0 (padN l.length) ([a % 256, b % 256, ((l.length : Int) + 4) / 256 % 256, ((l.length : Int) + 4) % 256] ++ l) (by simp; unfold padN; omega) (by simp; omega)
  exact this
theorem rdLC (xs : List S24) (i : Nat) (h : i < xs.length) : rd_T24 xs (i : Int) = xs[i] := by
  unfold rd_T24; rw [Int.toNat_natCast, List.getD_eq_getElem?_getD, List.getElem?_eq_getElem h]; rfl
theorem rdIC (xs : List S27) (i : Nat) (h : i < xs.length) : rd_T27 xs (i : Int) = xs[i] := by
  unfold rd_T27; rw [Int.toNat_natCast, List.getD_eq_getElem?_getD, List.getElem?_eq_getElem h]; rfl
def packS (c : S27) : List Int := packC c.f0 c.f1 c.f2
def faultS (c : S27) : Int := chunkF c.f0 c.f1 c.f2
def packsS (xs : List S27) : List Int := (xs.map packS).flatten
def firstF : List S27 → Int
  | [] => 0
  | c :: t => if faultS c = 0 then firstF t else faultS c
theorem firstF_mem {xs : List S27} (h : firstF xs = 0) : ∀ c ∈ xs, faultS c = 0 := by
  induction xs with
  | nil => intro c hc; cases hc
  | cons x t ih =>
    intro c hc
    unfold firstF at h
    by_cases h0 : faultS x = 0
    · rw [if_pos h0] at h
      rcases List.mem_cons.1 hc with rfl | hc
      · exact h0
      · exact ih h c hc
    · rw [if_neg h0] at h; exact absurd h h0
theorem faultS_len {c : S27} (h : faultS c = 0) : c.f2.length ≤ 160 := (chunkF_zero h).2.2
theorem packS_len {c : S27} (h : c.f2.length ≤ 160) : (packS c).length ≤ 167 := by
  unfold packS; rw [packC_length]; unfold padN; omega
theorem packsS_len {xs : List S27} (h : ∀ c ∈ xs, c.f2.length ≤ 160) : (packsS xs).length ≤ 167 * xs.length := by
  induction xs with
  | nil => exact Nat.le_refl _
  | cons x t ih =>
    have h1 := packS_len (h x (List.mem_cons_self ..))
    have h2 := ih fun c hc => h c (List.mem_cons_of_mem _ hc)
    unfold packsS at h2 ⊢
    rw [List.map_cons, List.flatten_cons, List.length_append, List.length_cons]
    omega
theorem szChunkS_l0 (xs : List S24) (hx : ∀ c ∈ xs, c.f2.length ≤ 9223372036854775807) (hn : xs.length ≤ 1048576) (d : Nat) : ∀ (i : Nat) (a : Int), i + d = xs.length → 0 ≤ a → a ≤ 1048576 → (∀ c ∈ xs.take i, c.f2.length ≤ 1048576) → ∃ v, Ev (fun k => laws_szChunkS.l0 k xs a (i : Int)) v ∧ (v < 0 ∨ 0 ≤ v ∧ v ≤ a ∧ ∀ c ∈ xs, c.f2.length ≤ 1048576) := by
  induction d with
  | zero =>
    intro i a h h0 h1 ht
    refine ⟨a, Ev.ret fun k => ?_, .inr ⟨h0, Int.le_refl _, ?_⟩⟩
    · simp only [laws_szChunkS.l0]; rw [if_neg (by omega)]
    · rw [List.take_of_length_le (by omega)] at ht; exact ht
  | succ d ih =>
    intro i a h h0 h1 ht
    have hi : i < xs.length := by omega
    have hr : rd_T24 xs (i : Int) = xs[i] := rdLC xs i hi
    have hw : wrap64 ((i : Int) + 1) = ((i + 1 : Nat) : Int) := w64_succ (by omega)
    have hmem : xs[i] ∈ xs := List.getElem_mem hi
    by_cases hb : a < (xs[i].f2.length : Int)
    · refine ⟨-1, Ev.step (fun k => by simp only [laws_szChunkS.l0, hr]; rfl) ?_, .inl (by omega)⟩
      exact Ev.pos (by omega) (Ev.pos (by omega) (Ev.bind (Ev.all fun _ => szChunk_big (hx _ hmem) h0 h1 hb) (Ev.pos (by decide) (Ev.now _))))
    · obtain ⟨v, h2, h3⟩ := ih (i + 1) (a - (xs[i].f2.length : Int)) (by omega) (by omega) (by omega) (by
        intro c hc
        rw [List.take_succ_eq_append_getElem hi] at hc
        rcases List.mem_append.1 hc with hc | hc
        · exact ht c hc
        · obtain rfl := List.mem_singleton.1 hc; omega)
      refine ⟨v, Ev.step (fun k => by simp only [laws_szChunkS.l0, hr, hw]; rfl) ?_, h3.imp id fun h => ⟨h.1, by have := h.2.1; omega, h.2.2⟩⟩
      exact Ev.pos (by omega) (Ev.pos (by omega) (Ev.bind (Ev.all fun _ => szChunk_ok h1 (by omega)) (Ev.neg (by omega) h2)))
theorem szChunkS_ev (xs : List S24) (hl : xs.length ≤ 9223372036854775807) (hx : ∀ c ∈ xs, c.f2.length ≤ 9223372036854775807) {a : Int} (a0 : 0 ≤ a) (a1 : a ≤ 1048576) : ∃ v, Ev (fun k => laws_szChunkS.f k xs a) v ∧ (v < 0 ∨ 0 ≤ v ∧ v ≤ a ∧ xs.length ≤ 1048576 ∧ ∀ c ∈ xs, c.f2.length ≤ 1048576) := by
  have hw : wrap64 (a - (xs.length : Int)) = a - (xs.length : Int) := w64 (by omega) (by omega)
  unfold laws_szChunkS.f
  simp only [hw]
  by_cases hb : a < (xs.length : Int)
  · exact ⟨-1, Ev.pos (by omega) (Ev.now _), .inl (by omega)⟩
  · obtain ⟨v, h1, h2⟩ := szChunkS_l0 xs hx (by omega) xs.length 0 (a - (xs.length : Int)) (by omega) (by omega) (by omega) (by intro c hc; rw [List.take_zero] at hc; cases hc)
    exact ⟨v, Ev.neg (by omega) h1, h2.imp id fun h => ⟨h.1, by omega, by omega, h.2.2⟩⟩
theorem szPacket_ev (t : Int) (xs : List S24) (hl : xs.length ≤ 9223372036854775807) (hx : ∀ c ∈ xs, c.f2.length ≤ 9223372036854775807) {a : Int} (a0 : 0 ≤ a) (a1 : a ≤ 1048576) : ∃ v, Ev (fun k => laws_szPacket.f k t xs a) v ∧ (v < 0 ∨ 0 ≤ v ∧ v ≤ a ∧ xs.length ≤ 1048576 ∧ ∀ c ∈ xs, c.f2.length ≤ 1048576) := by
  obtain ⟨v, h1, h2⟩ := szChunkS_ev xs hl hx a0 a1
  unfold laws_szPacket.f
  by_cases h : v < 0
  · exact ⟨-1, Ev.bind h1 (Ev.pos h (Ev.now _)), .inl (by omega)⟩
  · exact ⟨v, Ev.bind h1 (Ev.neg h (Ev.now _)), h2⟩
def toI (c : S24) : S27 := ⟨c.f0, c.f1, c.f2⟩
theorem toChunkS_l0 (l : List S24) (hx : ∀ c ∈ l, c.f2.length ≤ 1048576) (hn : l.length ≤ 1048576) (d : Nat) : ∀ (i : Nat) (x : List S27), i + d = l.length → x.length = l.length → x.take i = (l.map toI).take i → Ev (fun k => laws_toChunkS.l0 k l x (i : Int)) (l.map toI) := by
  induction d with
  | zero =>
    intro i x h hxl ht
    rw [List.take_of_length_le (by omega), List.take_of_length_le (by rw [List.length_map]; omega)] at ht
    subst ht
    exact Ev.ret fun k => by simp only [laws_toChunkS.l0]; rw [if_neg (by omega)]
  | succ d ih =>
    intro i x h hxl ht
    have hi : i < l.length := by omega
    have him : i < (l.map toI).length := by rw [List.length_map]; exact hi
    have hr : rd_T24 l (i : Int) = l[i] := rdLC l i hi
    have hw : wrap64 ((i : Int) + 1) = ((i + 1 : Nat) : Int) := w64_succ (by omega)
    have hv : (l.map toI)[i] = (⟨l[i].f0, l[i].f1, l[i].f2⟩ : S27) := by rw [List.getElem_map]; rfl
    have hs := take_set_succ x (l.map toI) i (by omega) him ht
    rw [hv] at hs
    have h2 := ih (i + 1) (x.set i (⟨l[i].f0, l[i].f1, l[i].f2⟩ : S27)) (by omega) (by rw [List.length_set]; exact hxl) hs
    refine Ev.step (fun k => by simp only [laws_toChunkS.l0, hr, hw, Int.toNat_natCast]; rfl) ?_
    exact Ev.pos (by omega) (Ev.pos (by omega) (Ev.bind (toChunk_ev l[i].f0 l[i].f1 l[i].f2 (by have := hx _ (List.getElem_mem hi); omega)) (Ev.pos (by omega) h2)))
theorem toChunkS_ev (l : List S24) (hx : ∀ c ∈ l, c.f2.length ≤ 1048576) (hn : l.length ≤ 1048576) : Ev (fun k => laws_toChunkS.f k l) (l.map toI) := by
  have h := toChunkS_l0 l hx hn l.length 0 (List.replicate l.length z27) (by omega) (by simp) (by simp)
  unfold laws_toChunkS.f
  simp only [Int.toNat_natCast]
  exact Ev.pos (by omega) (Ev.pos (by omega) h)
theorem toPacket_ev (t : Int) (l : List S24) (hx : ∀ c ∈ l, c.f2.length ≤ 1048576) (hn : l.length ≤ 1048576) : Ev (fun k => laws_toPacket.f k t l) (t, l.map toI) := by
  unfold laws_toPacket.f
  exact Ev.bind (toChunkS_ev l hx hn) (Ev.now _)
theorem eqChunkS_l0 (l : List S27) (hx : ∀ c ∈ l, c.f2.length ≤ 1048576) (hn : l.length ≤ 1048576) (d : Nat) : ∀ (i : Nat), i + d = l.length → Ev (fun k => laws_eqChunkS.l0 k l l (i : Int)) true := by
  induction d with
  | zero =>
    intro i h
    exact Ev.ret fun k => by simp only [laws_eqChunkS.l0]; rw [if_neg (by omega)]
  | succ d ih =>
    intro i h
    have hi : i < l.length := by omega
    have hr : rd_T27 l (i : Int) = l[i] := rdIC l i hi
    have hw : wrap64 ((i : Int) + 1) = ((i + 1 : Nat) : Int) := w64_succ (by omega)
    refine Ev.step (fun k => by simp only [laws_eqChunkS.l0, hr, hw]; rfl) ?_
    exact Ev.pos (by omega) (Ev.pos (by omega) (Ev.pos (by omega) (Ev.bind (eqChunk_self _ _ _ (by have := hx _ (List.getElem_mem hi); omega)) (Ev.pos rfl (ih (i + 1) (by omega))))))
theorem eqChunkS_self (l : List S27) (hx : ∀ c ∈ l, c.f2.length ≤ 1048576) (hn : l.length ≤ 1048576) : Ev (fun k => laws_eqChunkS.f k l l) true := by
  unfold laws_eqChunkS.f
  exact Ev.pos rfl (eqChunkS_l0 l hx hn l.length 0 (by omega))
theorem eqPacket_self (t : Int) (l : List S27) (hx : ∀ c ∈ l, c.f2.length ≤ 1048576) (hn : l.length ≤ 1048576) : Ev (fun k => laws_eqPacket.f k t l t l) true := by
  unfold laws_eqPacket.f
  exact Ev.pos rfl (Ev.bind (eqChunkS_self l hx hn) (Ev.pos rfl (Ev.now _)))
theorem l4Raw_l0 (t : Int) (xs : List S27) (hx : ∀ c ∈ xs, c.f2.length ≤ 160) (hn : xs.length ≤ 1000) (d : Nat) : ∀ (i : Nat) (acc : List Int), i + d = xs.length → acc.length ≤ 100 + 167 * i → Ev (fun k => spec_l4Raw.l0 k acc (i : Int) t xs) (acc ++ packsS (xs.drop i)) := by
  induction d with
  | zero =>
    intro i acc h ha
    refine Ev.ret fun k => ?_
    simp only [spec_l4Raw.l0]
    rw [if_neg (by omega), List.drop_of_length_le (by omega)]
    simp [packsS]
  | succ d ih =>
    intro i acc h ha
    have hi : i < xs.length := by omega
    have hr : rd_T27 xs (i : Int) = xs[i] := rdIC xs i hi
    have hw : wrap64 ((i : Int) + 1) = ((i + 1 : Nat) : Int) := w64_succ (by omega)
    have hb := hx _ (List.getElem_mem hi)
    have hp := packS_len hb
    have e : acc ++ packsS (xs.drop i) = acc ++ packS xs[i] ++ packsS (xs.drop (i + 1)) := by
      rw [drop_cons xs i hi]
      unfold packsS
      rw [List.map_cons, List.flatten_cons, List.append_assoc]
    rw [e]
    refine Ev.step (fun k => by simp only [spec_l4Raw.l0, hr, hw]; rfl) ?_
    refine Ev.pos (by omega) (Ev.pos (by omega) (Ev.bind (l4Chunk_ev _ _ _ (by omega)) (Ev.pos ?_ (ih (i + 1) (acc ++ packS xs[i]) (by omega) (by rw [List.length_append]; omega)))))
    show acc.length + (packS xs[i]).length < _
    omega
theorem l4Raw_ev {t s : Int} (ht : Wd t) (hs : Wd s) (xs : List S27) (hx : ∀ c ∈ xs, c.f2.length ≤ 160) (hn : xs.length ≤ 1000) : Ev (fun k => spec_l4Raw.f k t xs s) (pack4 t ++ pack4 s ++ packsS xs) := by
  have h := l4Raw_l0 t xs hx hn xs.length 0 (pack4 t ++ pack4 s) (by omega) (by simp [pack4])
  unfold spec_l4Raw.f
  rw [l1Pack_eq ht, l1Pack_eq hs]
  simp only [Option.bind_some]
  exact Ev.pos (by simp [pack4]) h
theorem packChunks_l0 (xs : List S27) (hx : ∀ c ∈ xs, c.f2.length ≤ 160) (hn : xs.length ≤ 1000) (d : Nat) : ∀ (i : Nat) (acc : List Int), i + d = xs.length → acc.length ≤ 100 + 167 * i → Ev (fun k => impl_packChunks.l0 k acc xs (xs.length : Int) (i : Int)) (acc ++ packsS (xs.drop i)) := by
  induction d with
  | zero =>
    intro i acc h ha
    refine Ev.ret fun k => ?_
    simp only [impl_packChunks.l0]
    rw [if_neg (by omega), List.drop_of_length_le (by omega)]
    simp [packsS]
  | succ d ih =>
    intro i acc h ha
    have hi : i < xs.length := by omega
    have hr : rd_T27 xs (i : Int) = xs[i] := rdIC xs i hi
    have hw : wrap64 ((i : Int) + 1) = ((i + 1 : Nat) : Int) := w64_succ (by omega)
    have hb := hx _ (List.getElem_mem hi)
    have hp := packS_len hb
    have e : acc ++ packsS (xs.drop i) = acc ++ packS xs[i] ++ packsS (xs.drop (i + 1)) := by
      rw [drop_cons xs i hi]
      unfold packsS
      rw [List.map_cons, List.flatten_cons, List.append_assoc]
    rw [e]
    refine Ev.step (fun k => by simp only [impl_packChunks.l0, hr, hw]; rfl) ?_
    refine Ev.pos (by omega) (Ev.pos (by omega) (Ev.pos (by omega) (Ev.bind (packChunk_ev _ _ _ (by omega)) (Ev.pos ?_ (ih (i + 1) (acc ++ packS xs[i]) (by omega) (by rw [List.length_append]; omega))))))
    show acc.length + (packS xs[i]).length < _
    omega
theorem packChunks_ev (xs : List S27) (hx : ∀ c ∈ xs, c.f2.length ≤ 160) (hn : xs.length ≤ 1000) : Ev (fun k => impl_packChunks.f k xs) (packsS xs) := by
  have h := packChunks_l0 xs hx hn xs.length 0 [] (by omega) (by simp)
  unfold impl_packChunks.f
  exact h
def pktF (t : Int) (xs : List S27) : Int := if isWd t = true then (if 1 ≤ xs.length ∧ xs.length ≤ 8 then (if firstF xs = 0 then (if 8 + (packsS xs).length > 500 then 2 else 0) else firstF xs) else 2) else 3
theorem specPacketFault_l0 {t : Int} (ht : Wd t) (xs : List S27) (hn : xs.length ≤ 8) (d : Nat) : ∀ (i : Nat), i + d = xs.length → (∀ c ∈ xs.take i, faultS c = 0) → Ev (fun k => spec_PacketFault.l0 k (i : Int) t xs) (if firstF (xs.drop i) = 0 then (if 8 + (packsS xs).length > 500 then 2 else 0) else firstF (xs.drop i)) := by
  induction d with
  | zero =>
    intro i h ho
    rw [List.take_of_length_le (by omega)] at ho
    rw [List.drop_of_length_le (by omega), if_pos (show firstF [] = 0 from rfl)]
    have hx : ∀ c ∈ xs, c.f2.length ≤ 160 := fun c hc => faultS_len (ho c hc)
    have hl : (pack4 t ++ pack4 0 ++ packsS xs).length = 8 + (packsS xs).length := by simp [pack4]; omega
    refine Ev.step (fun k => by simp only [spec_PacketFault.l0]; rfl) (Ev.neg (by omega) (Ev.bind (l4Raw_ev ht ⟨by omega, by omega⟩ xs hx (by omega)) ?_))
    rw [hl]
    by_cases hb : 8 + (packsS xs).length > 500
    · rw [if_pos hb]; exact Ev.pos (by omega) (Ev.now _)
    · rw [if_neg hb]; exact Ev.neg (by omega) (Ev.now _)
  | succ d ih =>
    intro i h ho
    have hi : i < xs.length := by omega
    have hr : rd_T27 xs (i : Int) = xs[i] := rdIC xs i hi
    have hw : wrap64 ((i : Int) + 1) = ((i + 1 : Nat) : Int) := w64_succ (by omega)
    rw [drop_cons xs i hi]
    refine Ev.step (fun k => by simp only [spec_PacketFault.l0, hr, hw]; rfl) (Ev.pos (by omega) (Ev.pos (by omega) (Ev.bind (specChunkFault_ev _ _ _) ?_)))
    show Ev _ (if (if faultS xs[i] = 0 then firstF (xs.drop (i + 1)) else faultS xs[i]) = 0 then _ else (if faultS xs[i] = 0 then firstF (xs.drop (i + 1)) else faultS xs[i]))
    by_cases h0 : faultS xs[i] = 0
    · rw [if_pos h0]
      refine Ev.pos h0 (ih (i + 1) (by omega) ?_)
      intro c hc
      rw [List.take_succ_eq_append_getElem hi] at hc
      rcases List.mem_append.1 hc with hc | hc
      · exact ho c hc
      · obtain rfl := List.mem_singleton.1 hc; exact h0
    · rw [if_neg h0, if_neg h0]
      exact Ev.neg h0 (Ev.now _)
theorem specPacketFault_ev (t : Int) (xs : List S27) : Ev (fun k => spec_PacketFault.f k t xs) (pktF t xs) := by
  unfold spec_PacketFault.f pktF
  rw [l1Word32_eq]
  simp only [Option.bind_some]
  by_cases ht : isWd t = true
  · rw [if_pos ht]
    refine Ev.pos ht ?_
    by_cases h1 : (xs.length : Int) < 1
    · rw [if_neg (by omega)]
      exact Ev.pos h1 (Ev.ret fun k => by simp only [spec_PacketFault.j0, if_true])
    · refine Ev.neg h1 ?_
      by_cases h8 : (xs.length : Int) > 8
      · rw [if_neg (by omega), decide_eq_true h8]
        exact Ev.ret fun k => by simp only [spec_PacketFault.j0, if_true]
      · rw [if_pos (by omega), decide_eq_false h8]
        refine Ev.step (fun k => by simp only [spec_PacketFault.j0, Bool.false_eq_true, if_false]; rfl) ?_
        exact specPacketFault_l0 (isWd_true.1 ht) xs (by omega) xs.length 0 (by omega) (by intro c hc; rw [List.take_zero] at hc; cases hc)
  · rw [if_neg ht]
    exact Ev.neg ht (Ev.now _)
theorem implPacketFault_l0 (t : Int) (xs : List S27) (hn : xs.length ≤ 8) (d : Nat) : ∀ (i : Nat), i + d = xs.length → (∀ c ∈ xs.take i, faultS c = 0) → Ev (fun k => impl_PacketFault.l0 k xs (xs.length : Int) (i : Int) t xs) (if firstF (xs.drop i) = 0 then (if 8 + (packsS xs).length > 500 then 2 else 0) else firstF (xs.drop i)) := by
  induction d with
  | zero =>
    intro i h ho
    rw [List.take_of_length_le (by omega)] at ho
    rw [List.drop_of_length_le (by omega), if_pos (show firstF [] = 0 from rfl)]
    have hx : ∀ c ∈ xs, c.f2.length ≤ 160 := fun c hc => faultS_len (ho c hc)
    have hl := packsS_len hx
    have hw : wrap64 (8 + ((packsS xs).length : Int)) = 8 + ((packsS xs).length : Int) := w64 (by omega) (by omega)
    refine Ev.step (fun k => by simp only [impl_PacketFault.l0]; rfl) (Ev.neg (by omega) (Ev.bind (packChunks_ev xs hx (by omega)) ?_))
    rw [hw]
    by_cases hb : 8 + (packsS xs).length > 500
    · rw [if_pos hb]; exact Ev.pos (by omega) (Ev.now _)
    · rw [if_neg hb]; exact Ev.neg (by omega) (Ev.now _)
  | succ d ih =>
    intro i h ho
    have hi : i < xs.length := by omega
    have hr : rd_T27 xs (i : Int) = xs[i] := rdIC xs i hi
    have hw : wrap64 ((i : Int) + 1) = ((i + 1 : Nat) : Int) := w64_succ (by omega)
    rw [drop_cons xs i hi]
    refine Ev.step (fun k => by simp only [impl_PacketFault.l0, hr, hw]; rfl) (Ev.pos (by omega) (Ev.pos (by omega) (Ev.pos (by omega) (Ev.bind (implChunkFault_ev _ _ _) ?_))))
    show Ev _ (if (if faultS xs[i] = 0 then firstF (xs.drop (i + 1)) else faultS xs[i]) = 0 then _ else (if faultS xs[i] = 0 then firstF (xs.drop (i + 1)) else faultS xs[i]))
    by_cases h0 : faultS xs[i] = 0
    · rw [if_pos h0]
      refine Ev.pos h0 (ih (i + 1) (by omega) ?_)
      intro c hc
      rw [List.take_succ_eq_append_getElem hi] at hc
      rcases List.mem_append.1 hc with hc | hc
      · exact ho c hc
      · obtain rfl := List.mem_singleton.1 hc; exact h0
    · rw [if_neg h0, if_neg h0]
      exact Ev.neg h0 (Ev.now _)
theorem implPacketFault_ev (t : Int) (xs : List S27) : Ev (fun k => impl_PacketFault.f k t xs) (pktF t xs) := by
  unfold impl_PacketFault.f pktF
  rw [isWord_eq]
  simp only [Option.bind_some, within_eq]
  by_cases ht : isWd t = true
  · rw [if_pos ht]
    refine Ev.pos ht ?_
    by_cases h1 : 1 ≤ xs.length ∧ xs.length ≤ 8
    · rw [if_pos h1]
      refine Ev.pos (inB_true.2 (by omega)) ?_
      exact implPacketFault_l0 t xs (by omega) xs.length 0 (by omega) (by intro c hc; rw [List.take_zero] at hc; cases hc)
    · rw [if_neg h1]
      exact Ev.neg (fun h => h1 (by have := inB_true.1 h; omega)) (Ev.now _)
  · rw [if_neg ht]
    exact Ev.neg ht (Ev.now _)
theorem FnExactPacketFault : laws_FnExactPacketFault.Pure := by
  intro t l _ hl
  have hx : ∀ c ∈ l, c.f2.length ≤ 9223372036854775807 := fun c hc => (hl.2 c hc).2.2.1
  apply Ev.rounds
  unfold laws_FnExactPacketFault.f
  obtain ⟨v, hv, h⟩ := szPacket_ev t l hl.1 hx (a := 1048576) (by omega) (by omega)
  rcases h with h | ⟨h0, _, hn, hc⟩
  · exact Ev.bind hv (Ev.pos h (Ev.now _))
  have hm : ∀ c ∈ l.map toI, c.f2.length ≤ 1048576 := by
    intro c hc2
    obtain ⟨x, hx, rfl⟩ := List.mem_map.1 hc2
    exact hc x hx
  have hT := toPacket_ev t l hc hn
  refine Ev.bind hv (Ev.neg (by omega) (Ev.bind hT (Ev.bind (specPacketFault_ev t (l.map toI)) (Ev.bind hT (Ev.bind (implPacketFault_ev t (l.map toI)) (Ev.pos rfl ?_))))))
  exact Ev.bind hT (Ev.bind (eqPacket_self t _ hm (by rw [List.length_map]; exact hn)) (Ev.pos rfl (Ev.now _)))
end FnExactPacketFault_
theorem FnExactPacketFault : laws_FnExactPacketFault.Pure := FnExactPacketFault_.FnExactPacketFault
end Go.Proofs.Ytglphklcfpgjbaa.Pure
