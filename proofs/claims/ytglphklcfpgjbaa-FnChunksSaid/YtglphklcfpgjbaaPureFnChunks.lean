/- The pure statement of FnChunks: what the printed functions of the program and of the reference compute makes the law answer true, for all arguments (each number of its kind). -/
import Derived.Test.YtglphklcfpgjbaaPFnChunksx4
import Derived.Test.YtglphklcfpgjbaaBase
import Derived.Test.YtglphklcfpgjbaaSz
set_option linter.unusedVariables false
set_option linter.unusedSimpArgs false
namespace Go.Proofs.Ytglphklcfpgjbaa.Pure
open Go.RowKit Go.Proofs.Ytglphklcfpgjbaa.PFnChunks Go.Proofs.YtglphklcfpgjbaaW.PrintWords Go.Proofs.YtglphklcfpgjbaaW.PrintLast Go.Proofs.YtglphklcfpgjbaaW.PrintMore Go.Proofs.Ytglphklcfpgjbaa.Base
namespace FnChunks_
theorem l1In_eq (a b c : Int) : spec_l1In.f a b c = some (inB a b c) := ge_le
theorem within_eq (a b c : Int) : impl_within.f a b c = some (inB a b c) := ge_le
theorem specActionOf_eq (a : Int) : spec_ActionOf.f a = some (actOf a) := by
  unfold spec_ActionOf.f actOf; rw [l1In_eq]; simp only [Option.bind_some]; split <;> rfl
theorem implActionOf_eq (a : Int) : impl_ActionOf.f a = some (actOf a) := by
  unfold impl_ActionOf.f actOf; rw [within_eq]; simp only [Option.bind_some]; split <;> rfl
theorem lwBig_eq (l : List Int) : laws_lwBig.f l = some (decide ((l.length : Int) > 1048576)) := rfl
theorem l1Next_ok {c : List Int} (hb : Bytes c) (hl : c.length ≤ 1048576) {s : Int} (h0 : 0 ≤ s) (h1 : s ≤ 1073741824) {n : Int} (hn : 1 ≤ n) : ∃ v, spec_l1Next.f c s n = some (v, s + 1) ∧ 0 ≤ v ∧ v < n := by
  unfold spec_l1Next.f
  have e1 : wrap64 (s + 1) = s + 1 := w64 (by omega) (by omega)
  have e2 : wrap64 (s + 1 - 1) = s := by rw [w64 (by omega) (by omega)]; omega
  have e3 : wrap64 (s + 2) = s + 2 := w64 (by omega) (by omega)
  simp only [e1, e2, e3]
  rw [if_neg (show ¬ n < 1 by omega)]
  have fin : ∀ X : Int, 0 ≤ X → ∃ v, (if n = 0 then none else some (Int.tmod X n, s + 1)) = some (v, s + 1) ∧ 0 ≤ v ∧ v < n := fun X hX => ⟨Int.tmod X n, by rw [if_neg (by omega)], Int.tmod_nonneg _ hX, Int.tmod_lt_of_pos _ (by omega)⟩
  by_cases hz : (c.length : Int) = 0
  · rw [if_pos hz]
    exact fin _ (by rw [w64 (by omega) (by omega)]; omega)
  · rw [if_neg hz]
    have ix : ∀ t : Int, 0 ≤ t → 0 ≤ Int.tmod t (c.length : Int) ∧ Int.tmod t (c.length : Int) < (c.length : Int) := fun t ht => ⟨Int.tmod_nonneg _ ht, Int.tmod_lt_of_pos _ (by omega)⟩
    rw [if_pos (ix s h0).1, if_pos (ix s h0).2, if_pos (ix (s + 1) (by omega)).1, if_pos (ix (s + 1) (by omega)).2, if_pos (ix (s + 2) (by omega)).1, if_pos (ix (s + 2) (by omega)).2]
    have q0 : 0 ≤ Int.tdiv s (c.length : Int) := Int.tdiv_nonneg h0 (by omega)
    have q1 : Int.tdiv s (c.length : Int) ≤ s := by
      rw [Int.tdiv_eq_ediv_of_nonneg h0]; exact Int.ediv_le_self _ h0
    have b0 := hb.rd (Int.tmod s (c.length : Int))
    have b1 := hb.rd (Int.tmod (s + 1) (c.length : Int))
    have b2 := hb.rd (Int.tmod (s + 2) (c.length : Int))
    generalize rd c (Int.tmod s (c.length : Int)) = x0 at *
    generalize rd c (Int.tmod (s + 1) (c.length : Int)) = x1 at *
    generalize rd c (Int.tmod (s + 2) (c.length : Int)) = x2 at *
    generalize Int.tdiv s (c.length : Int) = q at *
    have v0 : wrap64 (wrap64 x0 + wrap64 (wrap64 q * 37)) = x0 + q * 37 := by
      rw [w64 (x := x0) (by omega) (by omega), w64 (x := q) (by omega) (by omega), w64 (x := q * 37) (by omega) (by omega), w64 (by omega) (by omega)]
    have v1 : wrap64 (wrap64 (wrap64 ((x0 + q * 37) * 251) + wrap64 (wrap64 x1 * 13)) + s) = (x0 + q * 37) * 251 + x1 * 13 + s := by
      rw [w64 (x := x1) (by omega) (by omega), w64 (x := x1 * 13) (by omega) (by omega), w64 (x := (x0 + q * 37) * 251) (by omega) (by omega), w64 (x := (x0 + q * 37) * 251 + x1 * 13) (by omega) (by omega), w64 (by omega) (by omega)]
    have v2 : ∀ y : Int, 0 ≤ y → y ≤ 1152921504606846 → 0 ≤ wrap64 (wrap64 (y * 257) + wrap64 x2) := by
      intro y hy hy1
      rw [w64 (x := x2) (by omega) (by omega), w64 (x := y * 257) (by omega) (by omega), w64 (by omega) (by omega)]; omega
    simp only [v0, v1]
    by_cases ha : n > 200
    · rw [if_pos ha]
      by_cases hc : n > 60000
      · rw [if_pos hc]; exact fin _ (v2 _ (by omega) (by omega))
      · rw [if_neg hc]; exact fin _ (by omega)
    · rw [if_neg ha, if_neg (show ¬ n > 60000 by omega)]; exact fin _ (by omega)
theorem l1Pick_ok {c : List Int} (hb : Bytes c) (hl : c.length ≤ 1048576) {s : Int} (h0 : 0 ≤ s) (h1 : s ≤ 1073741824) (l : List Int) (hn : 1 ≤ l.length) : ∃ v, spec_l1Pick.f c s l = some (v, s + 1) ∧ v ∈ l := by
  obtain ⟨v, hv, v0, v1⟩ := l1Next_ok hb hl h0 h1 (n := (l.length : Int)) (by omega)
  refine ⟨rd l v, ?_, rd_mem l v v0 v1⟩
  unfold spec_l1Pick.f
  rw [hv]; simp only [Option.bind_some]
  rw [if_pos v0, if_pos v1]
theorem l1Source_eq (c : List Int) : spec_l1Source.f c = some (c, 0) := rfl
theorem l1Some_l0 {c : List Int} (hb : Bytes c) (hl : c.length ≤ 1048576) (n : Nat) : ∀ (s : Int) (x : List Int), 0 ≤ s → s + n ≤ 1073741824 → Bytes x → x.length + n ≤ 1000000 → ∃ l, Ev (fun k => spec_l1Some.l0 k (n : Int) x c s) (l, s + n) ∧ Bytes l ∧ l.length = x.length + n := by
  induction n with
  | zero =>
    intro s x h0 h1 hx hn
    refine ⟨x, Ev.ret fun k => ?_, hx, rfl⟩
    simp only [spec_l1Some.l0]; rw [if_neg (by omega)]; simp
  | succ n ih =>
    intro s x h0 h1 hx hn
    obtain ⟨v, hv, v0, v1⟩ := l1Next_ok hb hl h0 (by omega) (n := 256) (by omega)
    have hx2 : Bytes (x ++ [v % 256]) := hx.append (fun y hy => by rw [List.mem_singleton.1 hy]; omega)
    obtain ⟨l, hl1, hl2, hl3⟩ := ih (s + 1) (x ++ [v % 256]) (by omega) (by omega) hx2 (by rw [List.length_append, List.length_singleton]; omega)
    refine ⟨l, ?_, hl2, by rw [hl3, List.length_append, List.length_singleton]; omega⟩
    have e : s + ((n + 1 : Nat) : Int) = s + 1 + (n : Int) := by omega
    rw [e]
    refine Ev.step (fun k => ?_) hl1
    simp only [spec_l1Some.l0]
    rw [if_pos (by omega), hv]; simp only [Option.bind_some]
    rw [if_pos (by omega), w64 (by omega) (by omega)]
    have e2 : ((n + 1 : Nat) : Int) - 1 = (n : Int) := by omega
    rw [e2]
theorem l1Some_ok {c : List Int} (hb : Bytes c) (hl : c.length ≤ 1048576) {s n : Int} (h0 : 0 ≤ s) (h1 : s ≤ 1000000000) (hn0 : 0 ≤ n) (hn : n ≤ 1000000) : ∃ l, Ev (fun k => spec_l1Some.f k c s n) (l, s + n) ∧ Bytes l ∧ (l.length : Int) = n := by
  obtain ⟨m, rfl⟩ := Int.eq_ofNat_of_zero_le hn0
  obtain ⟨l, h2, h3, h4⟩ := l1Some_l0 hb hl m s [] h0 (by omega) Bytes.nil (by simp; omega)
  refine ⟨l, ?_, h3, by simp at h4; omega⟩
  unfold spec_l1Some.f
  exact h2
theorem lwBytes_eq {a b : List Int} (ha : Bytes a) (hb : Bytes b) : laws_lwBytes.f a b = some (a == b) := by
  unfold laws_lwBytes.f; rw [strOf_beq ha hb]
theorem specChunkFault_ev (a b : Int) (l : List Int) : Ev (fun k => spec_ChunkFault.f k a b l) (chunkF a b l) := by
  have hj : ∀ q : Bool, Ev (fun k => spec_ChunkFault.j0 k (!q) a b l) (if q = true then (if l.length > 160 then 2 else 0) else 3) := by
    intro q
    refine Ev.ret fun k => ?_
    simp only [spec_ChunkFault.j0]
    cases q
    · rfl
    · simp only [Bool.not_true, Bool.false_eq_true, if_false, if_true]
      by_cases h : l.length > 160
      · rw [if_pos (by omega), if_pos h]
      · rw [if_neg (by omega), if_neg h]
  unfold spec_ChunkFault.f chunkF
  simp only [l1In_eq, Option.bind_some]
  cases inB a 0 255
  · simp only [Bool.false_and, Bool.false_eq_true, if_false]; exact hj false
  · simp only [Bool.true_and, if_true]; exact hj _
theorem implChunkFault_ev (a b : Int) (l : List Int) : Ev (fun k => impl_ChunkFault.f k a b l) (chunkF a b l) := by
  have hj : ∀ q : Bool, Ev (fun k => impl_ChunkFault.j0 k (!q) a b l) (if q = true then (if l.length > 160 then 2 else 0) else 3) := by
    intro q
    refine Ev.ret fun k => ?_
    simp only [impl_ChunkFault.j0]
    cases q
    · rfl
    · simp only [Bool.not_true, Bool.false_eq_true, if_false, if_true]
      by_cases h : l.length > 160
      · rw [if_pos (by omega), if_pos h]
      · rw [if_neg (by omega), if_neg h]
  unfold impl_ChunkFault.f chunkF
  simp only [within_eq, Option.bind_some]
  cases inB a 0 255
  · simp only [Bool.false_and, Bool.false_eq_true, if_false]; exact hj false
  · simp only [Bool.true_and, if_true]; exact hj _
theorem packChunk_l0 (d : Nat) : ∀ x : List Int, padN x.length = d → x.length ≤ 1000000 → Ev (fun k => impl_packChunk.l0 k x) (x ++ List.replicate d 0) := by
  induction d with
  | zero =>
    intro x h hl
    refine Ev.ret fun k => ?_
    simp only [impl_packChunk.l0]
    rw [if_pos (by unfold padN at h; omega)]; simp
  | succ d ih =>
    intro x h hl
    have e : x ++ List.replicate (d + 1) 0 = x ++ [0] ++ List.replicate d 0 := by rw [List.append_assoc, List.replicate_succ, List.singleton_append]
    rw [e]
    have hx : (x ++ [0] : List Int).length = x.length + 1 := by simp
    have hp : padN x.length ≤ 3 := by unfold padN; omega
    refine Ev.step (fun k => ?_) (ih (x ++ [0]) (by rw [hx]; unfold padN at h ⊢; omega) ?_)
    · simp only [impl_packChunk.l0]
      rw [if_neg (by unfold padN at h; omega), if_pos (by omega)]
    · rw [hx]
      by_cases hz : x.length = 1000000
      · rw [hz] at h; unfold padN at h; omega
      · omega
theorem packChunk_ev (a b : Int) (l : List Int) (hl : l.length ≤ 100000) : Ev (fun k => impl_packChunk.f k a b l) (packC a b l) := by
  unfold impl_packChunk.f
  have hw : wrap64 ((l.length : Int) + 4) = (l.length : Int) + 4 := w64 (by omega) (by omega)
  simp only [Option.bind_some, hw]
  refine Ev.pos (by simp; omega) ?_
  have := packChunk_l0 (padN l.length) ([a % 256, b % 256, ((l.length : Int) + 4) / 256 % 256, ((l.length : Int) + 4) % 256] ++ l) (by simp; unfold padN; omega) (by simp; omega)
  exact this
theorem implPackChunk_ev (a b : Int) (l : List Int) : Ev (fun k => impl_PackChunk.f k a b l) (packR a b l) := by
  unfold impl_PackChunk.f packR
  refine Ev.bind (implChunkFault_ev a b l) ?_
  by_cases h : chunkF a b l = 0
  · rw [if_pos h]
    exact Ev.pos h (Ev.bind (packChunk_ev a b l (by have := (chunkF_zero h).2.2; omega)) (Ev.now _))
  · rw [if_neg h]
    exact Ev.neg h (Ev.now _)
theorem l4Draw_ok {c : List Int} (hb : Bytes c) (hl : c.length ≤ 1048576) {s : Int} (h0 : 0 ≤ s) (h1 : s ≤ 1000000) : ∃ a b l t, Ev (fun k => spec_l4Draw.f k c s) (a, b, l, t) ∧ Bytes l ∧ l.length ≤ 40 ∧ s ≤ t ∧ t ≤ s + 43 := by
  unfold spec_l4Draw.f
  obtain ⟨a, ha, _⟩ := l1Pick_ok hb hl (s := s) (by omega) (by omega) [0, 1, 2, 3, 4, 5, 6, 10, 11, 15, 128, 193, 77, 200] (by simp)
  rw [ha]; simp only [Option.bind_some]
  obtain ⟨b, hb2, _⟩ := l1Pick_ok hb hl (s := s + 1) (by omega) (by omega) [0, 0, 3, 7, 255] (by simp)
  rw [hb2]; simp only [Option.bind_some]
  obtain ⟨n, hn, nm⟩ := l1Pick_ok hb hl (s := s + 1 + 1) (by omega) (by omega) [0, 1, 2, 4, 9, 40] (by simp)
  rw [hn]; simp only [Option.bind_some]
  have n0 : 0 ≤ n ∧ n ≤ 40 := by
    simp only [List.mem_cons, List.not_mem_nil, or_false] at nm
    rcases nm with rfl | rfl | rfl | rfl | rfl | rfl <;> omega
  obtain ⟨l, hl1, hl2, hl3⟩ := l1Some_ok hb hl (s := s + 1 + 1 + 1) (n := n) (by omega) (by omega) n0.1 (by omega)
  exact ⟨a, b, l, _, Ev.bind hl1 (Ev.now _), hl2, by omega, by omega, by omega⟩
theorem l4Bent_ok {c : List Int} (hb : Bytes c) (hl : c.length ≤ 1048576) {s : Int} (h0 : 0 ≤ s) (h1 : s ≤ 900000) : ∃ a b l t, Ev (fun k => spec_l4Bent.f k c s) (a, b, l, t) ∧ Bytes l ∧ l.length ≤ 161 ∧ s ≤ t ∧ t ≤ s + 250 := by
  unfold spec_l4Bent.f
  obtain ⟨a, b, l, t, hd, hl2, hl3, t0, t1⟩ := l4Draw_ok hb hl (s := s) (by omega) (by omega)
  obtain ⟨v, hv, v0, v1⟩ := l1Next_ok hb hl (s := t) (by omega) (by omega) (n := 16) (by omega)
  by_cases c0 : v = 0
  · obtain ⟨x, hx, _⟩ := l1Pick_ok hb hl (s := t + 1) (by omega) (by omega) [-1, 256] (by simp)
    exact ⟨x, b, l, _, Ev.bind hd (Ev.bind (Ev.all fun _ => hv) (Ev.pos c0 (Ev.bind (Ev.all fun _ => hx) (Ev.now _)))), hl2, by omega, by omega, by omega⟩
  by_cases c1 : v = 1
  · obtain ⟨x, hx, _⟩ := l1Pick_ok hb hl (s := t + 1) (by omega) (by omega) [-1, 256] (by simp)
    exact ⟨a, x, l, _, Ev.bind hd (Ev.bind (Ev.all fun _ => hv) (Ev.neg c0 (Ev.pos c1 (Ev.bind (Ev.all fun _ => hx) (Ev.now _))))), hl2, by omega, by omega, by omega⟩
  by_cases c2 : v = 2
  · obtain ⟨x, hx, xm⟩ := l1Pick_ok hb hl (s := t + 1) (by omega) (by omega) [160, 161] (by simp)
    have x0 : 0 ≤ x ∧ x ≤ 161 := by
      simp only [List.mem_cons, List.not_mem_nil, or_false] at xm
      rcases xm with rfl | rfl <;> omega
    obtain ⟨m, hm1, hm2, hm3⟩ := l1Some_ok hb hl (s := t + 1 + 1) (n := x) (by omega) (by omega) x0.1 (by omega)
    exact ⟨a, b, m, _, Ev.bind hd (Ev.bind (Ev.all fun _ => hv) (Ev.neg c0 (Ev.neg c1 (Ev.pos c2 (Ev.bind (Ev.all fun _ => hx) (Ev.bind hm1 (Ev.now _))))))), hm2, by omega, by omega, by omega⟩
  · exact ⟨a, b, l, _, Ev.bind hd (Ev.bind (Ev.all fun _ => hv) (Ev.neg c0 (Ev.neg c1 (Ev.neg c2 (Ev.now _))))), hl2, by omega, by omega, by omega⟩
theorem DrawPackChunk_ok {c : List Int} (hb : Bytes c) (hl : c.length ≤ 1048576) : ∃ a b l, Ev (fun k => spec_DrawPackChunk.f k c) (a, b, l) ∧ Bytes l ∧ l.length ≤ 161 := by
  obtain ⟨a, b, l, t, hd, hl2, hl3, _⟩ := l4Bent_ok hb hl (s := 0) (by omega) (by omega)
  refine ⟨a, b, l, ?_, hl2, hl3⟩
  unfold spec_DrawPackChunk.f
  rw [l1Source_eq]; simp only [Option.bind_some]
  exact Ev.bind hd (Ev.now _)
theorem DrawActionOf_ok {c : List Int} (hb : Bytes c) (hl : c.length ≤ 1048576) : ∃ v, spec_DrawActionOf.f c = some v := by
  obtain ⟨v, hv, _⟩ := l1Pick_ok hb hl (s := 0) (by omega) (by omega) [0, 63, 64, 127, 128, 192, 255, 256, -1] (by simp)
  refine ⟨v, ?_⟩
  unfold spec_DrawActionOf.f
  rw [l1Source_eq]; simp only [Option.bind_some]; rw [hv]; rfl
theorem ck_len (n : Nat) (h : n ≤ 160) : wrap64 ((n : Int) + 4) = (n : Int) + 4 ∧ wrap64 ((n : Int) + 7) = (n : Int) + 7 ∧ wrap64 (4 + (n : Int)) = 4 + (n : Int) := ⟨w64 (by omega) (by omega), w64 (by omega) (by omega), w64 (by omega) (by omega)⟩
theorem ck_sum (n : Nat) (h : n ≤ 160) : wrap64 (wrap64 (wrap64 (((n : Int) + 4) / 256 % 256) * 256) + wrap64 (((n : Int) + 4) % 256)) = wrap64 ((n : Int) + 4) := by
  rw [w64 (x := ((n : Int) + 4) / 256 % 256) (by omega) (by omega), w64 (x := ((n : Int) + 4) % 256) (by omega) (by omega), w64 (x := ((n : Int) + 4) / 256 % 256 * 256) (by omega) (by omega), w64 (x := ((n : Int) + 4) / 256 % 256 * 256 + ((n : Int) + 4) % 256) (by omega) (by omega), w64 (x := (n : Int) + 4) (by omega) (by omega)]
  omega
theorem ck_byte {a : Int} (h : 0 ≤ a ∧ a ≤ 255) : wrap64 (a % 256) = a := by rw [w64 (by omega) (by omega)]; omega
theorem ck_next {j : Nat} (h : j ≤ 1000) : wrap64 ((j : Int) + 1) = ((j + 1 : Nat) : Int) := by rw [w64 (by omega) (by omega)]; rfl
theorem ck_ifs {n L : Nat} (hge : n + 4 ≤ L) (hle : L ≤ n + 7) (hm : L % 4 = 0) : ((L : Int) % 4 = 0) ∧ ¬ ((L : Int) < (n : Int) + 4) ∧ ¬ ((L : Int) > (n : Int) + 7) ∧ (4 ≤ 4 + (n : Int)) ∧ (4 + (n : Int) ≤ (L : Int)) := by omega
theorem ck_cast (n : Nat) : ((4 + n : Nat) : Int) = 4 + (n : Int) := by omega
theorem ck_end {n L : Nat} (hge : n + 4 ≤ L) : ¬ ((L : Int) < (L : Int)) ∧ 2 < (L : Int) ∧ 3 < (L : Int) ∧ 0 < (L : Int) ∧ 1 < (L : Int) := by omega
theorem ck_mid {j d L : Nat} (hj : j + (d + 1) = L) : (j : Int) < (L : Int) ∧ 0 ≤ (j : Int) ∧ j < L ∧ j + 1 + d = L := by omega
theorem FnChunks_l0 {a b : Int} {l p : List Int} {n : Nat} (ha : 0 ≤ a ∧ a ≤ 255) (hb : 0 ≤ b ∧ b ≤ 255) (hn : n ≤ 160) (hge : n + 4 ≤ p.length) (hle : p.length ≤ 167)
    (r0 : rd p 0 = a % 256) (r1 : rd p 1 = b % 256) (r2 : rd p 2 = ((n : Int) + 4) / 256 % 256) (r3 : rd p 3 = ((n : Int) + 4) % 256) (hz : ∀ j : Nat, 4 + n ≤ j → j < p.length → rd p (j : Int) = 0)
    (d : Nat) : ∀ j : Nat, j + d = p.length → 4 + n ≤ j → Ev (fun k => laws_FnChunks.l0 k (n : Int) (j : Int) a b l 0 p) true := by
  induction d with
  | zero =>
    intro j hj h4
    obtain rfl : j = p.length := hj
    obtain ⟨c0, c1, c2, c3, c4⟩ := ck_end hge
    refine Ev.ret fun k => ?_
    simp only [laws_FnChunks.l0, r0, r1, r2, r3]
    rw [if_neg c0, if_pos c1, if_pos c2, if_pos (ck_sum n hn), if_pos c3, if_pos (ck_byte ha), if_pos c4, ck_byte hb, beq_self_eq_true]
  | succ d ih =>
    intro j hj h4
    obtain ⟨c0, c1, c2, c3⟩ := ck_mid hj
    refine Ev.step (fun k => ?_) (ih (j + 1) c3 (Nat.le_succ_of_le h4))
    simp only [laws_FnChunks.l0, hz j h4 c2, ck_next (Nat.le_trans (Nat.le_of_lt c2) (Nat.le_trans hle (by decide : 167 ≤ 1000)))]
    rw [if_pos c0, if_pos c1, if_pos (by trivial)]
theorem FnChunks_j0 {a b : Int} {l p : List Int} (hl2 : Bytes l) (ha : 0 ≤ a ∧ a ≤ 255) (hb : 0 ≤ b ∧ b ≤ 255) (hn : l.length ≤ 160) (hge : l.length + 4 ≤ p.length) (hle : p.length ≤ l.length + 7) (hm : p.length % 4 = 0)
    (r0 : rd p 0 = a % 256) (r1 : rd p 1 = b % 256) (r2 : rd p 2 = ((l.length : Int) + 4) / 256 % 256) (r3 : rd p 3 = ((l.length : Int) + 4) % 256) (hz : ∀ j : Nat, 4 + l.length ≤ j → j < p.length → rd p (j : Int) = 0)
    (hbody : (p.take (4 + (l.length : Int)).toNat).drop 4 = l) : Ev (fun k => laws_FnChunks.j0 k false a b l 0 p) true := by
  obtain ⟨w4, w7, w5⟩ := ck_len l.length hn
  obtain ⟨c0, c1, c2, c3, c4⟩ := ck_ifs hge hle hm
  have e0 : ∀ k, laws_FnChunks.j0 (k + 1) false a b l 0 p = laws_FnChunks.j1 k (l.length : Int) false a b l 0 p := by
    intro k
    simp only [laws_FnChunks.j0, w4, w7, w5, hbody, lwBytes_eq hl2 hl2, Option.bind_some, beq_self_eq_true, Bool.not_true, Bool.false_eq_true, if_false, if_true]
    rw [if_pos c0, if_neg c1, if_neg c2, if_pos c3, if_pos c4]
  have e1 : ∀ k, laws_FnChunks.j1 (k + 1) (l.length : Int) false a b l 0 p = laws_FnChunks.l0 k (l.length : Int) ((4 + l.length : Nat) : Int) a b l 0 p := by
    intro k
    simp only [laws_FnChunks.j1, w5, Bool.false_eq_true, if_false]
    rw [ck_cast]
  have := FnChunks_l0 (l := l) ha hb hn hge (Nat.le_trans hle (Nat.add_le_add_right hn 7)) r0 r1 r2 r3 hz (p.length - (4 + l.length)) (4 + l.length) (Nat.add_sub_cancel' (by rw [Nat.add_comm]; exact hge)) (Nat.le_refl _)
  exact Ev.step e0 (Ev.step e1 this)
theorem FnChunks_fault {a b v : Int} {l p : List Int} (h : ¬ v = 0) : Ev (fun k => laws_FnChunks.j0 k false a b l v p) true :=
  Ev.step (fun k => by simp only [laws_FnChunks.j0]; rfl) (Ev.neg (by decide) (Ev.neg h (Ev.now _)))
theorem FnChunks_pack (a b : Int) (l : List Int) (hl2 : Bytes l) : Ev (fun k => laws_FnChunks.j0 k false a b l (packR a b l).1 (packR a b l).2) true := by
  by_cases hf : chunkF a b l = 0
  · have e : packR a b l = (0, packC a b l) := by unfold packR; rw [if_pos hf]
    rw [e]
    obtain ⟨ha, hb, hl⟩ := chunkF_zero hf
    have hlen := packC_length a b l
    have hp : padN l.length ≤ 3 := by unfold padN; omega
    exact FnChunks_j0 hl2 ha hb hl (by rw [hlen]; omega) (by rw [hlen]; omega) (packC_mod a b l) rfl rfl rfl rfl (packC_pad a b l) (packC_body a b l)
  · have e : packR a b l = (chunkF a b l, []) := by unfold packR; rw [if_neg hf]
    rw [e]
    exact FnChunks_fault hf
theorem FnChunks : laws_FnChunks.Pure := by
  intro c _ hc1 hc2
  have hb := Bytes.of_wf hc2
  apply Ev.rounds
  unfold laws_FnChunks.f
  simp only [lwBig_eq, Option.bind_some]
  by_cases hbig : (c.length : Int) > 1048576
  · simp only [decide_eq_true hbig, if_true]; exact Ev.now _
  simp only [decide_eq_false hbig, Bool.false_eq_true, if_false]
  obtain ⟨a, b, l, hd, hl2, hl3⟩ := DrawPackChunk_ok hb (show c.length ≤ 1048576 by omega)
  obtain ⟨v, hv⟩ := DrawActionOf_ok hb (show c.length ≤ 1048576 by omega)
  refine Ev.bind hd (Ev.bind (implPackChunk_ev a b l) (Ev.bind (Ev.all fun _ => hv) (Ev.bind (specChunkFault_ev a b l) (Ev.pos (packR_fst a b l) (Ev.bind (implChunkFault_ev a b l) (Ev.pos (packR_fst a b l).symm (Ev.bind (Ev.all fun _ => implActionOf_eq v) (Ev.bind (Ev.all fun _ => specActionOf_eq v) ?_))))))))
  simp only [beq_self_eq_true, Bool.not_true, Bool.or_self]
  exact FnChunks_pack a b l hl2
end FnChunks_
theorem FnChunks : laws_FnChunks.Pure := FnChunks_.FnChunks
end Go.Proofs.Ytglphklcfpgjbaa.Pure
