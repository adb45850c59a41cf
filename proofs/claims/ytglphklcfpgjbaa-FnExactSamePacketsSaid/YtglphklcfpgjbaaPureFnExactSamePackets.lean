/- The pure statement of FnExactSamePackets: what the printed functions of the program and of the reference compute makes the law answer true, for all arguments (each number of its kind). -/
import Derived.Test.YtglphklcfpgjbaaPFnExactSamePacketsx4
import Derived.Test.YtglphklcfpgjbaaBase
set_option linter.unusedVariables false
set_option linter.unusedSimpArgs false
namespace Go.Proofs.Ytglphklcfpgjbaa.Pure
open Go.RowKit Go.Proofs.Ytglphklcfpgjbaa.PFnExactSamePackets Go.Proofs.YtglphklcfpgjbaaW.PrintWords Go.Proofs.YtglphklcfpgjbaaW.PrintLast Go.Proofs.YtglphklcfpgjbaaW.PrintMore Go.Proofs.Ytglphklcfpgjbaa.Base
namespace FnExactSamePackets_
theorem toByteS_l0 (l : List Int) (hl : l.length ≤ 281474976710656) (d : Nat) : ∀ (i : Nat) (x : List Int), i + d = l.length → x.length = l.length → x.take i = l.take i → Ev (fun k => laws_toByteS.l0 k l x (i : Int)) l := by
  induction d with
  | zero =>
    intro i x h hx ht
    have e : x = l := by
      rw [List.take_of_length_le (by omega), List.take_of_length_le (by omega)] at ht
      exact ht
    subst e
    exact Ev.ret fun k => by simp only [laws_toByteS.l0]; rw [if_neg (by omega)]
  | succ d ih =>
    intro i x h hx ht
    have hi : i < l.length := by omega
    refine Ev.step (f := fun k => laws_toByteS.l0 k l (x.set i l[i]) ((i + 1 : Nat) : Int)) (fun k => ?_) ?_
    · simp only [laws_toByteS.l0]
      rw [if_pos (by omega), if_pos (by omega), if_pos (by omega), rd_nat l i hi, w64 (by omega) (by omega)]
      simp only [Int.toNat_natCast]; rfl
    · refine ih (i + 1) _ (by omega) (by rw [List.length_set]; exact hx) ?_
      rw [List.take_succ_eq_append_getElem (by rw [List.length_set]; omega), List.take_succ_eq_append_getElem hi, List.getElem_set_self, List.take_set_of_le (by omega), ht]
theorem toByteS_ev (l : List Int) (hl : l.length ≤ 281474976710656) : Ev (fun k => laws_toByteS.f k l) l := by
  unfold laws_toByteS.f
  simp only [if_pos (show (0 : Int) ≤ (l.length : Int) by omega), if_pos (show ((l.length : Int) : Int).toNat ≤ 281474976710656 by omega)]
  exact toByteS_l0 l hl l.length 0 _ (by omega) (by simp) (by simp)
theorem eqByteS_l0 (l : List Int) (hl : l.length ≤ 4611686018427387904) (d : Nat) : ∀ i : Nat, i + d = l.length → Ev (fun k => laws_eqByteS.l0 k l l (i : Int)) true := by
  induction d with
  | zero =>
    intro i h
    exact Ev.ret fun k => by simp only [laws_eqByteS.l0]; rw [if_neg (by omega)]
  | succ d ih =>
    intro i h
    refine Ev.step (f := fun k => laws_eqByteS.l0 k l l ((i + 1 : Nat) : Int)) (fun k => ?_) (ih (i + 1) (by omega))
    simp only [laws_eqByteS.l0]
    rw [if_pos (by omega), if_pos (by omega), if_pos (by omega), if_pos (by trivial), w64 (by omega) (by omega)]; rfl
theorem eqByteS_self (l : List Int) (hl : l.length ≤ 4611686018427387904) : Ev (fun k => laws_eqByteS.f k l l) true := by
  unfold laws_eqByteS.f
  simp only [if_true]
  exact eqByteS_l0 l hl l.length 0 (by omega)
theorem slicesEqualB_l0 (l m : List Int) (e : l.length = m.length) (hl : l.length ≤ 4611686018427387904) (d : Nat) : ∀ i : Nat, i + d = l.length → Ev (fun k => slices_Equal_byte_byte.l0 k l m (l.length : Int) (i : Int)) (l.drop i == m.drop i) := by
  induction d with
  | zero =>
    intro i h
    rw [List.drop_of_length_le (by omega), List.drop_of_length_le (by omega)]
    exact Ev.ret fun k => by simp only [slices_Equal_byte_byte.l0]; rw [if_neg (by omega)]; rfl
  | succ d ih =>
    intro i h
    have hi : i < l.length := by omega
    have hm : i < m.length := by omega
    rw [List.drop_eq_getElem_cons hi, List.drop_eq_getElem_cons hm]
    refine Ev.step (f := fun k => if l[i] = m[i] then slices_Equal_byte_byte.l0 k l m (l.length : Int) ((i + 1 : Nat) : Int) else some false) (fun k => ?_) ?_
    · simp only [slices_Equal_byte_byte.l0]
      rw [if_pos (by omega), if_pos (by omega), if_pos (by omega), if_pos (by omega), rd_nat l i hi, rd_nat m i hm, w64 (by omega) (by omega)]; rfl
    · by_cases c : l[i] = m[i]
      · simp only [if_pos c, List.cons_beq_cons, beq_iff_eq.2 c, Bool.true_and]; exact ih (i + 1) (by omega)
      · have c' : (l[i] == m[i]) = false := by simpa using c
        simp only [if_neg c, List.cons_beq_cons, c', Bool.false_and]; exact Ev.now _
theorem slicesEqualB_ev (l m : List Int) (hl : l.length ≤ 4611686018427387904) : Ev (fun k => slices_Equal_byte_byte.f k l m) (l == m) := by
  unfold slices_Equal_byte_byte.f
  by_cases e : l.length = m.length
  · simp only [if_pos (show (l.length : Int) = (m.length : Int) by omega)]
    have := slicesEqualB_l0 l m e hl l.length 0 (by omega)
    rw [List.drop_zero, List.drop_zero] at this
    exact this
  · simp only [if_neg (show ¬ (l.length : Int) = (m.length : Int) by omega)]
    have : (l == m) = false := by
      rw [beq_eq_false_iff_ne]; intro h; exact e (by rw [h])
    rw [this]; exact Ev.now _
theorem blk_len {p : List Int} {m n : Nat} (hp : p.length = 64 * m) (hn : n < m) : ((p.take (64 * n + 64)).drop (64 * n)).length = 64 := by
  rw [List.length_drop, List.length_take]; omega
theorem blk_ifs {n m : Nat} (hm : m ≤ 1000) (hn : n < m) : ((64 * n : Nat) : Int) < ((64 * m : Nat) : Int) ∧ 0 ≤ ((64 * n : Nat) : Int) ∧ ((64 * n : Nat) : Int) ≤ ((64 * n + 64 : Nat) : Int) ∧ ((64 * n + 64 : Nat) : Int) ≤ ((64 * m : Nat) : Int) ∧ wrap64 (((64 * n : Nat) : Int) + 64) = ((64 * n + 64 : Nat) : Int) := by
  refine ⟨by omega, by omega, by omega, by omega, ?_⟩
  rw [w64 (by omega) (by omega)]; omega
theorem padded_64 (l : List Int) : (padded l).length = 64 * ((padded l).length / 64) := by
  rw [padded_length]; unfold zerosFor; omega
theorem padded_few {l : List Int} (h : l.length ≤ 700) : (padded l).length / 64 ≤ 1000 := by
  rw [padded_length]; unfold zerosFor; omega
theorem szByteS_big {l : List Int} (hl : l.length ≤ 9223372036854775807) {a : Int} (h0 : 0 ≤ a) (h1 : a ≤ 1048576) (h : a < (l.length : Int)) : laws_szByteS.f l a = some (-1) := by
  unfold laws_szByteS.f
  rw [w64 (by omega) (by omega), if_pos (by omega)]
theorem szByteS_ok {l : List Int} {a : Int} (h1 : a ≤ 1048576) (h : (l.length : Int) ≤ a) : laws_szByteS.f l a = some (a - (l.length : Int)) := by
  unfold laws_szByteS.f
  rw [w64 (by omega) (by omega), if_neg (by omega)]
theorem szChunk_big {a b : Int} {l : List Int} (hl : l.length ≤ 9223372036854775807) {n : Int} (h0 : 0 ≤ n) (h1 : n ≤ 1048576) (h : n < (l.length : Int)) : laws_szChunk.f a b l n = some (-1) := by
  unfold laws_szChunk.f
  rw [szByteS_big hl h0 h1 h]; rfl
theorem szChunk_ok {a b : Int} {l : List Int} {n : Int} (h1 : n ≤ 1048576) (h : (l.length : Int) ≤ n) : laws_szChunk.f a b l n = some (n - (l.length : Int)) := by
  unfold laws_szChunk.f
  rw [szByteS_ok h1 h]; simp only [Option.bind_some]
  rw [if_neg (by omega)]
theorem toChunk_ev (a b : Int) (l : List Int) (hl : l.length ≤ 281474976710656) : Ev (fun k => laws_toChunk.f k a b l) (a, b, l) := by
  unfold laws_toChunk.f
  exact Ev.bind (toByteS_ev l hl) (Ev.now _)
theorem eqChunk_self (a b : Int) (l : List Int) (hl : l.length ≤ 4611686018427387904) : Ev (fun k => laws_eqChunk.f k a b l a b l) true := by
  unfold laws_eqChunk.f
  exact Ev.pos rfl (Ev.pos rfl (Ev.bind (eqByteS_self l hl) (Ev.pos rfl (Ev.now _))))
theorem rdLC (xs : List S24) (i : Nat) (h : i < xs.length) : rd_T24 xs (i : Int) = xs[i] := by
  unfold rd_T24; rw [Int.toNat_natCast, List.getD_eq_getElem?_getD, List.getElem?_eq_getElem h]; rfl
theorem rdIC (xs : List S27) (i : Nat) (h : i < xs.length) : rd_T27 xs (i : Int) = xs[i] := by
  unfold rd_T27; rw [Int.toNat_natCast, List.getD_eq_getElem?_getD, List.getElem?_eq_getElem h]; rfl
def packS (c : S27) : List Int := packC c.f0 c.f1 c.f2
def faultS (c : S27) : Int := chunkF c.f0 c.f1 c.f2
def packsS (xs : List S27) : List Int := (xs.map packS).flatten
def firstF : List S27 → Int
  | [] => 0
  | c :: t => if faultS c = 0 then firstF t else faultS c
theorem firstF_mem {xs : List S27} (h : firstF xs = 0) : ∀ c ∈ xs, faultS c = 0 := by
  induction xs with
  | nil => intro c hc; cases hc
  | cons x t ih =>
    intro c hc
    unfold firstF at h
    by_cases h0 : faultS x = 0
    · rw [if_pos h0] at h
      rcases List.mem_cons.1 hc with rfl | hc
      · exact h0
      · exact ih h c hc
    · rw [if_neg h0] at h; exact absurd h h0
theorem faultS_len {c : S27} (h : faultS c = 0) : c.f2.length ≤ 160 := (chunkF_zero h).2.2
theorem packS_len {c : S27} (h : c.f2.length ≤ 160) : (packS c).length ≤ 167 := by
  unfold packS; rw [packC_length]; unfold padN; omega
theorem packsS_len {xs : List S27} (h : ∀ c ∈ xs, c.f2.length ≤ 160) : (packsS xs).length ≤ 167 * xs.length := by
  induction xs with
  | nil => exact Nat.le_refl _
  | cons x t ih =>
    have h1 := packS_len (h x (List.mem_cons_self ..))
    have h2 := ih fun c hc => h c (List.mem_cons_of_mem _ hc)
    unfold packsS at h2 ⊢
    rw [List.map_cons, List.flatten_cons, List.length_append, List.length_cons]
    omega
theorem szChunkS_l0 (xs : List S24) (hx : ∀ c ∈ xs, c.f2.length ≤ 9223372036854775807) (hn : xs.length ≤ 1048576) (d : Nat) : ∀ (i : Nat) (a : Int), i + d = xs.length → 0 ≤ a → a ≤ 1048576 → (∀ c ∈ xs.take i, c.f2.length ≤ 1048576) → ∃ v, Ev (fun k => laws_szChunkS.l0 k xs a (i : Int)) v ∧ (v < 0 ∨ 0 ≤ v ∧ v ≤ a ∧ ∀ c ∈ xs, c.f2.length ≤ 1048576) := by
  induction d with
  | zero =>
    intro i a h h0 h1 ht
    refine ⟨a, Ev.ret fun k => ?_, .inr ⟨h0, Int.le_refl _, ?_⟩⟩
    · simp only [laws_szChunkS.l0]; rw [if_neg (by omega)]
    · rw [List.take_of_length_le (by omega)] at ht; exact ht
  | succ d ih =>
    intro i a h h0 h1 ht
    have hi : i < xs.length := by omega
    have hr : rd_T24 xs (i : Int) = xs[i] := rdLC xs i hi
    have hw : wrap64 ((i : Int) + 1) = ((i + 1 : Nat) : Int) := w64_succ (by omega)
    have hmem : xs[i] ∈ xs := List.getElem_mem hi
    by_cases hb : a < (xs[i].f2.length : Int)
    · refine ⟨-1, Ev.step (fun k => by simp only [laws_szChunkS.l0, hr]; rfl) ?_, .inl (by omega)⟩
      exact Ev.pos (by omega) (Ev.pos (by omega) (Ev.bind (Ev.all fun _ => szChunk_big (hx _ hmem) h0 h1 hb) (Ev.pos (by decide) (Ev.now _))))
    · obtain ⟨v, h2, h3⟩ := ih (i + 1) (a - (xs[i].f2.length : Int)) (by omega) (by omega) (by omega) (by
        intro c hc
        rw [List.take_succ_eq_append_getElem hi] at hc
        rcases List.mem_append.1 hc with hc | hc
        · exact ht c hc
        · obtain rfl := List.mem_singleton.1 hc; omega)
      refine ⟨v, Ev.step (fun k => by simp only [laws_szChunkS.l0, hr, hw]; rfl) ?_, h3.imp id fun h => ⟨h.1, by have := h.2.1; omega, h.2.2⟩⟩
      exact Ev.pos (by omega) (Ev.pos (by omega) (Ev.bind (Ev.all fun _ => szChunk_ok h1 (by omega)) (Ev.neg (by omega) h2)))
theorem szChunkS_ev (xs : List S24) (hl : xs.length ≤ 9223372036854775807) (hx : ∀ c ∈ xs, c.f2.length ≤ 9223372036854775807) {a : Int} (a0 : 0 ≤ a) (a1 : a ≤ 1048576) : ∃ v, Ev (fun k => laws_szChunkS.f k xs a) v ∧ (v < 0 ∨ 0 ≤ v ∧ v ≤ a ∧ xs.length ≤ 1048576 ∧ ∀ c ∈ xs, c.f2.length ≤ 1048576) := by
  have hw : wrap64 (a - (xs.length : Int)) = a - (xs.length : Int) := w64 (by omega) (by omega)
  unfold laws_szChunkS.f
  simp only [hw]
  by_cases hb : a < (xs.length : Int)
  · exact ⟨-1, Ev.pos (by omega) (Ev.now _), .inl (by omega)⟩
  · obtain ⟨v, h1, h2⟩ := szChunkS_l0 xs hx (by omega) xs.length 0 (a - (xs.length : Int)) (by omega) (by omega) (by omega) (by intro c hc; rw [List.take_zero] at hc; cases hc)
    exact ⟨v, Ev.neg (by omega) h1, h2.imp id fun h => ⟨h.1, by omega, by omega, h.2.2⟩⟩
theorem szPacket_ev (t : Int) (xs : List S24) (hl : xs.length ≤ 9223372036854775807) (hx : ∀ c ∈ xs, c.f2.length ≤ 9223372036854775807) {a : Int} (a0 : 0 ≤ a) (a1 : a ≤ 1048576) : ∃ v, Ev (fun k => laws_szPacket.f k t xs a) v ∧ (v < 0 ∨ 0 ≤ v ∧ v ≤ a ∧ xs.length ≤ 1048576 ∧ ∀ c ∈ xs, c.f2.length ≤ 1048576) := by
  obtain ⟨v, h1, h2⟩ := szChunkS_ev xs hl hx a0 a1
  unfold laws_szPacket.f
  by_cases h : v < 0
  · exact ⟨-1, Ev.bind h1 (Ev.pos h (Ev.now _)), .inl (by omega)⟩
  · exact ⟨v, Ev.bind h1 (Ev.neg h (Ev.now _)), h2⟩
def toI (c : S24) : S27 := ⟨c.f0, c.f1, c.f2⟩
theorem toChunkS_l0 (l : List S24) (hx : ∀ c ∈ l, c.f2.length ≤ 1048576) (hn : l.length ≤ 1048576) (d : Nat) : ∀ (i : Nat) (x : List S27), i + d = l.length → x.length = l.length → x.take i = (l.map toI).take i → Ev (fun k => laws_toChunkS.l0 k l x (i : Int)) (l.map toI) := by
  induction d with
  | zero =>
    intro i x h hxl ht
    rw [List.take_of_length_le (by omega), List.take_of_length_le (by rw [List.length_map]; omega)] at ht
    subst ht
    exact Ev.ret fun k => by simp only [laws_toChunkS.l0]; rw [if_neg (by omega)]
  | succ d ih =>
    intro i x h hxl ht
    have hi : i < l.length := by omega
    have him : i < (l.map toI).length := by rw [List.length_map]; exact hi
    have hr : rd_T24 l (i : Int) = l[i] := rdLC l i hi
    have hw : wrap64 ((i : Int) + 1) = ((i + 1 : Nat) : Int) := w64_succ (by omega)
    have hv : (l.map toI)[i] = (⟨l[i].f0, l[i].f1, l[i].f2⟩ : S27) := by rw [List.getElem_map]; rfl
    have hs := take_set_succ x (l.map toI) i (by omega) him ht
    rw [hv] at hs
    have h2 := ih (i + 1) (x.set i (⟨l[i].f0, l[i].f1, l[i].f2⟩ : S27)) (by omega) (by rw [List.length_set]; exact hxl) hs
    refine Ev.step (fun k => by simp only [laws_toChunkS.l0, hr, hw, Int.toNat_natCast]; rfl) ?_
    exact Ev.pos (by omega) (Ev.pos (by omega) (Ev.bind (toChunk_ev l[i].f0 l[i].f1 l[i].f2 (by have := hx _ (List.getElem_mem hi); omega)) (Ev.pos (by omega) h2)))
theorem toChunkS_ev (l : List S24) (hx : ∀ c ∈ l, c.f2.length ≤ 1048576) (hn : l.length ≤ 1048576) : Ev (fun k => laws_toChunkS.f k l) (l.map toI) := by
  have h := toChunkS_l0 l hx hn l.length 0 (List.replicate l.length z27) (by omega) (by simp) (by simp)
  unfold laws_toChunkS.f
  simp only [Int.toNat_natCast]
  exact Ev.pos (by omega) (Ev.pos (by omega) h)
theorem toPacket_ev (t : Int) (l : List S24) (hx : ∀ c ∈ l, c.f2.length ≤ 1048576) (hn : l.length ≤ 1048576) : Ev (fun k => laws_toPacket.f k t l) (t, l.map toI) := by
  unfold laws_toPacket.f
  exact Ev.bind (toChunkS_ev l hx hn) (Ev.now _)
theorem eqChunkS_l0 (l : List S27) (hx : ∀ c ∈ l, c.f2.length ≤ 1048576) (hn : l.length ≤ 1048576) (d : Nat) : ∀ (i : Nat), i + d = l.length → Ev (fun k => laws_eqChunkS.l0 k l l (i : Int)) true := by
  induction d with
  | zero =>
    intro i h
    exact Ev.ret fun k => by simp only [laws_eqChunkS.l0]; rw [if_neg (by omega)]
  | succ d ih =>
    intro i h
    have hi : i < l.length := by omega
    have hr : rd_T27 l (i : Int) = l[i] := rdIC l i hi
    have hw : wrap64 ((i : Int) + 1) = ((i + 1 : Nat) : Int) := w64_succ (by omega)
    refine Ev.step (fun k => by simp only [laws_eqChunkS.l0, hr, hw]; rfl) ?_
    exact Ev.pos (by omega) (Ev.pos (by omega) (Ev.pos (by omega) (Ev.bind (eqChunk_self _ _ _ (by have := hx _ (List.getElem_mem hi); omega)) (Ev.pos rfl (ih (i + 1) (by omega))))))
theorem eqChunkS_self (l : List S27) (hx : ∀ c ∈ l, c.f2.length ≤ 1048576) (hn : l.length ≤ 1048576) : Ev (fun k => laws_eqChunkS.f k l l) true := by
  unfold laws_eqChunkS.f
  exact Ev.pos rfl (eqChunkS_l0 l hx hn l.length 0 (by omega))
theorem eqPacket_self (t : Int) (l : List S27) (hx : ∀ c ∈ l, c.f2.length ≤ 1048576) (hn : l.length ≤ 1048576) : Ev (fun k => laws_eqPacket.f k t l t l) true := by
  unfold laws_eqPacket.f
  exact Ev.pos rfl (Ev.bind (eqChunkS_self l hx hn) (Ev.pos rfl (Ev.now _)))
def pktF (t : Int) (xs : List S27) : Int := if isWd t = true then (if 1 ≤ xs.length ∧ xs.length ≤ 8 then (if firstF xs = 0 then (if 8 + (packsS xs).length > 500 then 2 else 0) else firstF xs) else 2) else 3
def allSame : List S27 → List S27 → Bool
  | x :: xs, y :: ys => if x.f0 = y.f0 then (if x.f1 = y.f1 then (if x.f2 = y.f2 then allSame xs ys else false) else false) else false
  | _, _ => true
def sameCs (xs ys : List S27) : Bool := if xs.length = ys.length then allSame xs ys else false
theorem l4Same_l0 (xs ys : List S27) (hx : ∀ c ∈ xs, Bytes c.f2) (hy : ∀ c ∈ ys, Bytes c.f2) (hn : xs.length ≤ 1048576) (he : xs.length = ys.length) (d : Nat) : ∀ i : Nat, i + d = xs.length → Ev (fun k => spec_l4SameChunks.l0 k xs ys (i : Int)) (allSame (xs.drop i) (ys.drop i)) := by
  induction d with
  | zero =>
    intro i h
    rw [List.drop_of_length_le (by omega), List.drop_of_length_le (by omega)]
    exact Ev.ret fun k => by simp only [spec_l4SameChunks.l0]; rw [if_neg (by omega)]; rfl
  | succ d ih =>
    intro i h
    have hi : i < xs.length := by omega
    have hj : i < ys.length := by omega
    have hr : rd_T27 xs (i : Int) = xs[i] := rdIC xs i hi
    have hs : rd_T27 ys (i : Int) = ys[i] := rdIC ys i hj
    have hw : wrap64 ((i : Int) + 1) = ((i + 1 : Nat) : Int) := w64_succ (by omega)
    have b1 := hx _ (List.getElem_mem hi)
    have b2 := hy _ (List.getElem_mem hj)
    rw [drop_cons xs i hi, drop_cons ys i hj]
    refine Ev.step (fun k => by simp only [spec_l4SameChunks.l0, hr, hs, hw]; rfl) (Ev.pos (by omega) (Ev.pos (by omega) (Ev.pos (by omega) ?_)))
    unfold allSame
    by_cases h0 : xs[i].f0 = ys[i].f0
    · rw [if_pos h0]
      refine Ev.pos h0 ?_
      by_cases h1 : xs[i].f1 = ys[i].f1
      · rw [if_pos h1]
        refine Ev.pos h1 ?_
        by_cases h2 : xs[i].f2 = ys[i].f2
        · rw [if_pos h2]; exact Ev.pos (by rw [h2]) (ih (i + 1) (by omega))
        · rw [if_neg h2]; exact Ev.neg (fun e => h2 (strOf_inj b1 b2 e)) (Ev.now _)
      · rw [if_neg h1]; exact Ev.neg h1 (Ev.now _)
    · rw [if_neg h0]; exact Ev.neg h0 (Ev.now _)
theorem l4Same_ev (xs ys : List S27) (hx : ∀ c ∈ xs, Bytes c.f2) (hy : ∀ c ∈ ys, Bytes c.f2) (hn : xs.length ≤ 1048576) : Ev (fun k => spec_l4SameChunks.f k xs ys) (sameCs xs ys) := by
  unfold spec_l4SameChunks.f sameCs
  by_cases he : xs.length = ys.length
  · rw [if_pos he]; exact Ev.pos (by omega) (l4Same_l0 xs ys hx hy hn he xs.length 0 (by omega))
  · rw [if_neg he]; exact Ev.neg (by omega) (Ev.now _)
theorem specSamePackets_ev (a b : Int) (xs ys : List S27) (hx : ∀ c ∈ xs, Bytes c.f2) (hy : ∀ c ∈ ys, Bytes c.f2) (hn : xs.length ≤ 1048576) : Ev (fun k => spec_SamePackets.f k a xs b ys) (if a = b then sameCs xs ys else false) := by
  unfold spec_SamePackets.f
  by_cases h : a = b
  · rw [if_pos h]; exact Ev.pos h (Ev.bind (l4Same_ev xs ys hx hy hn) (Ev.now _))
  · rw [if_neg h]; exact Ev.neg h (Ev.now _)
theorem sameChunk_ev (a b c d : Int) (l m : List Int) (hl : l.length ≤ 4611686018427387904) : Ev (fun k => impl_sameChunk.f k a b l c d m) (if a = c then (if b = d then (l == m) else false) else false) := by
  unfold impl_sameChunk.f
  by_cases h0 : a = c
  · rw [if_pos h0]
    refine Ev.pos h0 ?_
    by_cases h1 : b = d
    · rw [if_pos h1]; exact Ev.pos h1 (Ev.bind (slicesEqualB_ev l m hl) (Ev.now _))
    · rw [if_neg h1]; exact Ev.neg h1 (Ev.now _)
  · rw [if_neg h0]; exact Ev.neg h0 (Ev.now _)
theorem EqualC_l0 (xs ys : List S27) (hx : ∀ c ∈ xs, c.f2.length ≤ 1048576) (hn : xs.length ≤ 1048576) (he : xs.length = ys.length) (d : Nat) : ∀ i : Nat, i + d = xs.length → Ev (fun k => impl_Chunk.l0 k ys xs (xs.length : Int) (i : Int)) (allSame (xs.drop i) (ys.drop i)) := by
  induction d with
  | zero =>
    intro i h
    rw [List.drop_of_length_le (by omega), List.drop_of_length_le (by omega)]
    exact Ev.ret fun k => by simp only [impl_Chunk.l0]; rw [if_neg (by omega)]; rfl
  | succ d ih =>
    intro i h
    have hi : i < xs.length := by omega
    have hj : i < ys.length := by omega
    have hr : rd_T27 xs (i : Int) = xs[i] := rdIC xs i hi
    have hs : rd_T27 ys (i : Int) = ys[i] := rdIC ys i hj
    have hw : wrap64 ((i : Int) + 1) = ((i + 1 : Nat) : Int) := w64_succ (by omega)
    have hb := hx _ (List.getElem_mem hi)
    rw [drop_cons xs i hi, drop_cons ys i hj]
    refine Ev.step (fun k => by simp only [impl_Chunk.l0, hr, hs, hw]; rfl) (Ev.pos (by omega) (Ev.pos (by omega) (Ev.pos (by omega) (Ev.pos (by omega) (Ev.bind (sameChunk_ev xs[i].f0 xs[i].f1 ys[i].f0 ys[i].f1 xs[i].f2 ys[i].f2 (by omega)) ?_)))))
    unfold allSame
    by_cases h0 : xs[i].f0 = ys[i].f0
    · rw [if_pos h0, if_pos h0]
      by_cases h1 : xs[i].f1 = ys[i].f1
      · rw [if_pos h1, if_pos h1]
        by_cases h2 : xs[i].f2 = ys[i].f2
        · rw [if_pos h2]; exact Ev.pos (beq_iff_eq.2 h2) (ih (i + 1) (by omega))
        · rw [if_neg h2]; exact Ev.neg (fun e => h2 (beq_iff_eq.1 e)) (Ev.now _)
      · rw [if_neg h1, if_neg h1]; exact Ev.neg (by decide) (Ev.now _)
    · rw [if_neg h0, if_neg h0]; exact Ev.neg (by decide) (Ev.now _)
theorem EqualC_ev (xs ys : List S27) (hx : ∀ c ∈ xs, c.f2.length ≤ 1048576) (hn : xs.length ≤ 1048576) : Ev (fun k => impl_Chunk.f k xs ys) (sameCs xs ys) := by
  unfold impl_Chunk.f sameCs
  by_cases he : xs.length = ys.length
  · rw [if_pos he]; exact Ev.pos (by omega) (EqualC_l0 xs ys hx hn he xs.length 0 (by omega))
  · rw [if_neg he]; exact Ev.neg (by omega) (Ev.now _)
theorem implSamePackets_ev (a b : Int) (xs ys : List S27) (hx : ∀ c ∈ xs, c.f2.length ≤ 1048576) (hn : xs.length ≤ 1048576) : Ev (fun k => impl_SamePackets.f k a xs b ys) (if a = b then sameCs xs ys else false) := by
  unfold impl_SamePackets.f
  by_cases h : a = b
  · rw [if_pos h]; exact Ev.pos h (Ev.bind (EqualC_ev xs ys hx hn) (Ev.now _))
  · rw [if_neg h]; exact Ev.neg h (Ev.now _)
theorem FnExactSamePackets : laws_FnExactSamePackets.Pure := by
  intro a l b m _ hl _ hm
  have hx : ∀ c ∈ l, c.f2.length ≤ 9223372036854775807 := fun c hc => (hl.2 c hc).2.2.1
  have hy : ∀ c ∈ m, c.f2.length ≤ 9223372036854775807 := fun c hc => (hm.2 c hc).2.2.1
  apply Ev.rounds
  unfold laws_FnExactSamePackets.f
  obtain ⟨v, hv, h⟩ := szPacket_ev a l hl.1 hx (a := 1048576) (by omega) (by omega)
  rcases h with h | ⟨h0, hv1, hn, hc⟩
  · exact Ev.bind hv (Ev.pos h (Ev.now _))
  obtain ⟨u, hu, g⟩ := szPacket_ev b m hm.1 hy (a := v) (by omega) (by omega)
  refine Ev.bind hv (Ev.neg (by omega) ?_)
  rcases g with g | ⟨g0, _, gn, gc⟩
  · exact Ev.bind hu (Ev.pos g (Ev.now _))
  have kl : ∀ c ∈ l.map toI, c.f2.length ≤ 1048576 := by
    intro c hc2; obtain ⟨x, hx, rfl⟩ := List.mem_map.1 hc2; exact hc x hx
  have km : ∀ c ∈ m.map toI, c.f2.length ≤ 1048576 := by
    intro c hc2; obtain ⟨x, hx, rfl⟩ := List.mem_map.1 hc2; exact gc x hx
  have bl : ∀ c ∈ l.map toI, Bytes c.f2 := by
    intro c hc2; obtain ⟨x, hx, rfl⟩ := List.mem_map.1 hc2; exact Bytes.of_wf (hl.2 x hx).2.2.2
  have bm : ∀ c ∈ m.map toI, Bytes c.f2 := by
    intro c hc2; obtain ⟨x, hx, rfl⟩ := List.mem_map.1 hc2; exact Bytes.of_wf (hm.2 x hx).2.2.2
  have nl : (l.map toI).length ≤ 1048576 := by rw [List.length_map]; exact hn
  have nm : (m.map toI).length ≤ 1048576 := by rw [List.length_map]; exact gn
  have hT := toPacket_ev a l hc hn
  have hU := toPacket_ev b m gc gn
  refine Ev.bind hu (Ev.neg (by omega) (Ev.bind hT (Ev.bind hU (Ev.bind (specSamePackets_ev a b _ _ bl bm nl) (Ev.bind hT (Ev.bind hU (Ev.bind (implSamePackets_ev a b _ _ kl nl) (Ev.neg (by simp) ?_))))))))
  refine Ev.bind hT (Ev.bind (eqPacket_self a _ kl nl) (Ev.pos rfl ?_))
  exact Ev.bind hU (Ev.bind (eqPacket_self b _ km nm) (Ev.pos rfl (Ev.now _)))
end FnExactSamePackets_
theorem FnExactSamePackets : laws_FnExactSamePackets.Pure := FnExactSamePackets_.FnExactSamePackets
end Go.Proofs.Ytglphklcfpgjbaa.Pure
