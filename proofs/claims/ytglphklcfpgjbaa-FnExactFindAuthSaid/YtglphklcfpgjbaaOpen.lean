/- What a row hands over, read as values of the printed kinds: whole numbers, bools, slices, structs whose fields have one cell each. -/
import Derived.Test.YtglphklcfpgjbaaWMore
import Derived.Deep.Slices
import Derived.ChangeArms
import Derived.DataReads
import Derived.WideShapes
namespace Go.Proofs.Ytglphklcfpgjbaa.Open
open Go.RowKit Go.Deep Go.ChangeShapes Go.WideShapes Go.Proofs.YtglphklcfpgjbaaW.PrintWords Go.Proofs.YtglphklcfpgjbaaW.PrintLast Go.Proofs.YtglphklcfpgjbaaW.PrintMore
/-- Whatever reads at the type t is a value of the kind d. -/
def Opens {α : Type} (P : Program) (W : World) (d : Kd α) (t : TypeId) (wf : α → Prop) : Prop :=
  ∀ (H : Type) (enc : TypeId × Value → H) (base : Nat) (sp : Nat → Bool) (held : Bool) (fuel : Nat) (cs : List Value) (x : DataW H × List MemPlace), DataW.trod enc P W base sp held fuel t cs = some x → ∃ a, d.K W a cs ∧ wf a
section
variable {P : Program} {W : World} {t e : TypeId}
theorem opens_int {k : IntKind} (hu : P.underlying t = some (.int k)) : Opens P W (Kd.int k) t (fun a => (Lit.int k a).wf = true) := by
  intro H enc base sp held fuel cs x h
  obtain ⟨n, rfl, _, hw⟩ := DataW.trod_int hu h
  exact ⟨n, rfl, hw⟩
theorem opens_bool (hu : P.underlying t = some .bool) : Opens P W Kd.bool t (fun _ => True) := by
  intro H enc base sp held fuel cs x h
  obtain ⟨n, rfl, _⟩ := DataW.trod_bool hu h
  exact ⟨n, rfl, trivial⟩
theorem opens_slice {α : Type} [Inhabited α] {d : Kd α} {wf : α → Prop} (e' : Nat) (hu : P.underlying t = some (.slice e)) (hs : P.cellsOf e = d.sz) (ho : Opens P W d e wf) :
    Opens P W (Kd.slice e' d) t (fun xs => xs.length ≤ 9223372036854775807 ∧ ∀ x ∈ xs, wf x) := by
  intro H enc base sp held fuel cs x h
  rcases open_slice hu h with ⟨rfl, _⟩ | ⟨a, len, cap, m, n, D, Pl, rfl, _, hlc, hcm, hm, _, hx⟩
  · exact ⟨[], ⟨none, 0, rfl, Nat.le_refl _, rfl, by simp, fun h0 => absurd h0 (Nat.lt_irrefl 0)⟩, by simp, by simp⟩
  · have hlm : len ≤ m := by
      rw [hm]
      split
      · exact hlc
      · exact Nat.le_refl _
    obtain ⟨f, hf⟩ := choose_lt (α := α) (p := fun i v => ∃ cs', W.cells? base (a.add (i * P.cellsOf e)) (P.cellsOf e) = some cs' ∧ d.K W v cs' ∧ wf v) (fun i (hi : i < len) => by
      obtain ⟨cs', h1, h2⟩ := hx i (by omega)
      obtain ⟨v, hv, hw⟩ := ho H enc base sp held n cs' _ h2
      exact ⟨v, cs', h1, hv, hw⟩)
    have hlen : ((List.range len).map f).length = len := by simp
    have hcap : cap ≤ 9223372036854775807 := hcm
    refine ⟨(List.range len).map f, ⟨some a, cap, by rw [hlen], by rw [hlen]; exact hlc, rfl, by rw [hlen]; omega, fun _ => ⟨a, rfl, fun j p hj => ?_⟩⟩, by rw [hlen]; omega, fun x hx2 => ?_⟩
    · have hjl : j < len := by
        have := (List.getElem?_eq_some_iff.1 hj).1
        rwa [hlen] at this
      have hp : p = f j := by
        rw [List.getElem?_map, List.getElem?_range hjl] at hj
        exact (Option.some.inj hj).symm
      obtain ⟨cs', h1, h2, _⟩ := hf j hjl
      obtain ⟨_, hl, hc⟩ := World.cells?_some h1
      subst hp
      refine ⟨cs', by rw [hl, hs], h2, fun i u hi => ?_⟩
      have hil : i < P.cellsOf e := by
        have := (List.getElem?_eq_some_iff.1 hi).1
        rwa [hl] at this
      rw [← Go.Deep.add_add, ← hs, hc i hil, hi]
    · obtain ⟨i, hi, rfl⟩ := List.mem_map.1 hx2
      obtain ⟨_, _, _, hw⟩ := hf i (List.mem_range.1 hi)
      exact hw
theorem cons_of {α : Type} {l : List α} {n : Nat} (h : l.length = n + 1) : ∃ a t, l = a :: t ∧ t.length = n := by
  cases l with
  | nil => simp at h
  | cons a t => exact ⟨a, t, rfl, by simpa using h⟩
theorem agg_of {cs : Array Value} {l : List Value} (h : (Value.agg cs).cells.toList = l) : cs = l.toArray := by
  have h2 : cs.toList = l := h
  rw [← h2, Array.toArray_toList]
/-- A struct's field, if it has one cell. -/
theorem trod_field {H : Type} {enc : TypeId × Value → H} {base : Nat} {sp : Nat → Bool} {held : Bool} {n : Nat} {cs : List Value} {xs : List (DataW H × List MemPlace)} {fs : Array Field}
    (hf : ∀ (i : Nat) (f : Field), fs[i]? = some f → DataW.trod enc P W base sp held n f.type ((cs.drop f.offset).take (P.cellsOf f.type)) = xs[i]?) (hl : xs.length = fs.size)
    (i : Nat) (f : Field) (hi : fs[i]? = some f) (hc : P.cellsOf f.type = 1) (u : Value) (hu : cs[f.offset]? = some u) : ∃ y, DataW.trod enc P W base sp held n f.type [u] = some y := by
  have hlt : i < xs.length := by rw [hl]; exact (Array.getElem?_eq_some_iff.1 hi).1
  have h := hf i f hi
  rw [List.getElem?_eq_getElem hlt, hc] at h
  have hd : (cs.drop f.offset).take 1 = [u] := by
    obtain ⟨hlt2, he⟩ := List.getElem?_eq_some_iff.1 hu
    rw [List.drop_eq_getElem_cons hlt2, he]; rfl
  rw [hd] at h
  exact ⟨_, h⟩
end
end Go.Proofs.Ytglphklcfpgjbaa.Open
