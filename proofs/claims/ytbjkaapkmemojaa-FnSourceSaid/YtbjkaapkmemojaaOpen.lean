/- What comes in, read by kinds: an argument that can be read as data holds what its kind tells. Of no program. -/
import Derived.Test.YtbjkaapkmemojaaWWords
import Derived.Test.YtbjkaapkmemojaaWLast
import Derived.Test.YtbjkaapkmemojaaWMore
import Derived.ChangeArms
import Derived.WideShapes
import Derived.OpenShut
import Derived.DataReads
import Derived.DataElems
namespace Go.Proofs.Ytbjkaapkmemojaa.Mine
open Go.ChangeShapes Go.WideShapes Go.RowKit Go.Proofs.YtbjkaapkmemojaaW.PrintWords Go.Proofs.YtbjkaapkmemojaaW.PrintLast Go.Proofs.YtbjkaapkmemojaaW.PrintMore

/-- What can be read at type t holds a value of the kind d that is good. -/
def Opens (P : Program) (t : TypeId) {α : Type} (d : Kd α) (G : α → Prop) : Prop :=
  P.cellsOf t = d.sz ∧ ∀ (H : Type) (enc : TypeId × Value → H) (w : World) (base : Nat) (spare : Nat → Bool) (held : Bool) (fuel : Nat) (cs : List Value) (x : DataW H × List MemPlace),
    DataW.trod enc P w base spare held fuel t cs = some x → ∃ a, d.K w a cs ∧ G a

theorem Opens.string {P : Program} {t : TypeId} (ht : P.underlying t = some .string) (hc : P.cellsOf t = 1) : Opens P t Kd.string (fun s => s.size ≤ 9223372036854775807) :=
  ⟨hc, fun H enc w base spare held fuel cs x h => by
    obtain ⟨s, rfl, _, hs⟩ := DataW.trod_string ht h
    exact ⟨s, rfl, by unfold maxLen at hs; omega⟩⟩
theorem Opens.int {P : Program} {t : TypeId} {k : IntKind} (ht : P.underlying t = some (.int k)) (hc : P.cellsOf t = 1) : Opens P t (Kd.int k) (fun n => (Lit.int k n).wf = true) :=
  ⟨hc, fun H enc w base spare held fuel cs x h => by
    obtain ⟨n, rfl, _, hs⟩ := DataW.trod_int ht h
    exact ⟨n, rfl, hs⟩⟩
theorem Opens.bool {P : Program} {t : TypeId} (ht : P.underlying t = some .bool) (hc : P.cellsOf t = 1) : Opens P t Kd.bool (fun _ => True) :=
  ⟨hc, fun H enc w base spare held fuel cs x h => by
    obtain ⟨b, rfl, _⟩ := DataW.trod_bool ht h
    exact ⟨b, rfl, trivial⟩⟩

theorem each_list {α : Type} (Q : Nat → α → Prop) (n : Nat) (h : ∀ i, i < n → ∃ a, Q i a) : ∃ l : List α, l.length = n ∧ ∀ (i : Nat) (a : α), l[i]? = some a → Q i a := by
  induction n with
  | zero => exact ⟨[], rfl, fun i a h => by simp at h⟩
  | succ n ih =>
    obtain ⟨l, hl, hq⟩ := ih (fun i hi => h i (by omega))
    obtain ⟨a, ha⟩ := h n (by omega)
    refine ⟨l ++ [a], by simp [hl], fun i b hb => ?_⟩
    by_cases hi : i < n
    · rw [List.getElem?_append_left (by omega)] at hb
      exact hq i b hb
    · rw [List.getElem?_append_right (by omega)] at hb
      have : i = n := by
        have := (List.getElem?_eq_some_iff.1 hb).1
        simp at this
        omega
      subst this
      rw [hl] at hb
      simp at hb
      subst hb
      exact ha

theorem cells?_each {w : World} {base : Nat} {a : Addr} {n : Nat} {cs : List Value} (h : w.cells? base a n = some cs) : cs.length = n ∧ ∀ (i : Nat) (u : Value), cs[i]? = some u → w.cell? (a.add i) = some u := by
  unfold World.cells? at h
  split at h
  · have hl := mapM_some_length h
    rw [List.length_range] at hl
    refine ⟨hl, fun i u hu => ?_⟩
    have hi : i < n := by
      have := (List.getElem?_eq_some_iff.1 hu).1
      omega
    have := mapM_some_get h i i (by rw [List.getElem?_range hi])
    rw [this, hu]
  · cases h

theorem Opens.slice {P : Program} {t e : TypeId} {α : Type} {d : Kd α} {G : α → Prop} (e' : Nat) (ht : P.underlying t = some (.slice e)) (hc : P.cellsOf t = 1) (ho : Opens P e d G) :
    Opens P t (Kd.slice e' d) (fun l => l.length ≤ 9223372036854775807 ∧ ∀ a ∈ l, G a) :=
  ⟨hc, fun H enc w base spare held fuel cs x h => by
    rcases DataW.trod_slice ht h with ⟨rfl, _⟩ | ⟨a, len, cap, elems, rest, n, _, rfl, _, hb, hl, hm, hlen, hel, _, _⟩
    · exact ⟨[], ⟨none, 0, rfl, Nat.le_refl _, rfl, by simp, fun h => absurd h (by simp)⟩, by simp, fun a ha => by simp at ha⟩
    · obtain ⟨l, hl1, hl2⟩ := each_list (fun i (y : α) => ∃ c, d.K w y c ∧ G y ∧ ∀ (j : Nat) (u : Value), c[j]? = some u → w.cell? (a.add (i * d.sz + j)) = some u) len (fun i hi => by
        have hy := hel i hi
        rw [List.getElem?_eq_getElem (by omega), Option.bind_eq_some_iff] at hy
        obtain ⟨c, hc1, hc2⟩ := hy
        obtain ⟨y, hK, hG⟩ := ho.2 H enc w base spare held n c _ hc2
        refine ⟨y, c, hK, hG, fun j u hu => ?_⟩
        have := (cells?_each hc1).2 j u hu
        rw [ho.1] at this
        rw [← this, Addr.add_add])
      unfold maxLen at hm
      refine ⟨l, ⟨some a, cap, by rw [hl1], by omega, rfl, by omega, fun _ => ⟨a, rfl, fun j p hp => ?_⟩⟩, by omega, fun y hy => ?_⟩
      · obtain ⟨c, hK, _, hcell⟩ := hl2 j p hp
        exact ⟨c, d.K_len hK, hK, hcell⟩
      · obtain ⟨i, hi⟩ := List.getElem?_of_mem hy
        obtain ⟨c, _, hG, _⟩ := hl2 i y hi
        exact hG⟩

/-- The fields from place off on, read one behind the other. -/
def FOpens (P : Program) (fs : List Field) (off : Nat) {α : Type} (d : Kd α) (G : α → Prop) : Prop :=
  ∀ (H : Type) (enc : TypeId × Value → H) (w : World) (base : Nat) (spare : Nat → Bool) (held : Bool) (n : Nat) (cs : List Value), cs.length = off + d.sz →
    (∀ f ∈ fs, ∃ y, DataW.trod enc P w base spare held n f.type ((cs.drop f.offset).take (P.cellsOf f.type)) = some y) → ∃ a, d.K w a (cs.drop off) ∧ G a
theorem FOpens.one {P : Program} {f : Field} {off : Nat} {α : Type} {d : Kd α} {G : α → Prop} (ho : f.offset = off) (h : Opens P f.type d G) : FOpens P [f] off d G :=
  fun H enc w base spare held n cs hl hf => by
    obtain ⟨y, hy⟩ := hf f (by simp)
    rw [ho, h.1, List.take_of_length_le (by simp; omega)] at hy
    exact h.2 H enc w base spare held n _ y hy
theorem FOpens.cons {P : Program} {f : Field} {fs : List Field} {off : Nat} {α β : Type} {d : Kd α} {b : Kd β} {G : α → Prop} {G' : β → Prop} (ho : f.offset = off) (h : Opens P f.type d G) (hr : FOpens P fs (off + d.sz) b G') :
    FOpens P (f :: fs) off (Kd.pair d b) (fun x => G x.1 ∧ G' x.2) :=
  fun H enc w base spare held n cs hl hf => by
    have hl' : cs.length = off + d.sz + b.sz := by rw [hl]; show off + (d.sz + b.sz) = _; omega
    obtain ⟨y, hy⟩ := hf f (by simp)
    rw [ho, h.1] at hy
    obtain ⟨a, hK, hG⟩ := h.2 H enc w base spare held n _ y hy
    obtain ⟨a', hK', hG'⟩ := hr H enc w base spare held n cs hl' (fun g hg => hf g (by simp [hg]))
    refine ⟨(a, a'), ⟨_, _, ?_, hK, hK'⟩, hG, hG'⟩
    rw [← List.drop_drop]
    exact (List.take_append_drop d.sz (cs.drop off)).symm
theorem Opens.struct {P : Program} {t : TypeId} {fs : Array Field} {α : Type} {d : Kd α} {G : α → Prop} (ht : P.underlying t = some (.struct fs)) (hc : P.cellsOf t = d.sz) (hf : FOpens P fs.toList 0 d G) : Opens P t d G :=
  ⟨hc, fun H enc w base spare held fuel cs x h => by
    obtain ⟨xs, n, _, _, hl, hlen, he⟩ := DataW.trod_struct ht h
    have := hf H enc w base spare held n cs (by omega) (fun f hf => by
      obtain ⟨i, hi⟩ := List.getElem?_of_mem hf
      have e := he i f (by simpa using hi)
      have hi' : i < xs.length := by
        have := (List.getElem?_eq_some_iff.1 hi).1
        simp at this
        omega
      rw [List.getElem?_eq_getElem hi'] at e
      exact ⟨_, e⟩)
    simpa using this⟩
theorem Opens.iso {P : Program} {t : TypeId} {α β : Type} {d : Kd α} {G : α → Prop} (f : β → α) (g : α → β) (hfg : ∀ a, f (g a) = a) (h : Opens P t d G) : Opens P t (Kd.iso d f) (fun x => G (f x)) :=
  ⟨h.1, fun H enc w base spare held fuel cs x hx => by
    obtain ⟨a, hK, hG⟩ := h.2 H enc w base spare held fuel cs x hx
    exact ⟨g a, by show d.K w (f (g a)) cs; rw [hfg]; exact hK, by show G (f (g a)); rw [hfg]; exact hG⟩⟩

/-- An argument of a slice's type. -/
theorem Opens.arg_slice {P : Program} {t e : TypeId} {α : Type} {d : Kd α} {G : α → Prop} (e' : Nat) (ht : P.underlying t = some (.slice e)) (hc : P.cellsOf t = 1) (ho : Opens P e d G)
    {H : Type} {enc : TypeId × Value → H} {w : World} {base : Nat} {spare : Nat → Bool} {held : Bool} {A : Option Addr} {n c : Nat} {x : DataW H} {p : List MemPlace} (h : DataW.Trod enc P w base spare held t (.slice A n c) x p) :
    ∃ l : List α, l.length = n ∧ n ≤ c ∧ d.C w A n l ∧ n ≤ 9223372036854775807 ∧ ∀ a ∈ l, G a := by
  obtain ⟨fuel, hf⟩ := h
  obtain ⟨l, ⟨A', c', he, hle, hC⟩, hb, hG⟩ := (Opens.slice e' ht hc ho).2 H enc w base spare held fuel _ _ hf
  have he' : [Value.slice A n c] = [.slice A' l.length c'] := he
  simp only [List.cons.injEq, Value.slice.injEq, and_true] at he'
  obtain ⟨rfl, rfl, rfl⟩ := he'
  exact ⟨l, rfl, hle, hC, hb, hG⟩
/-- An argument of a struct's type, by value. -/
theorem Opens.arg_struct {P : Program} {t : TypeId} {α : Type} {d : Kd α} {G : α → Prop} (ho : Opens P t d G)
    {H : Type} {enc : TypeId × Value → H} {w : World} {base : Nat} {spare : Nat → Bool} {held : Bool} {cs : Array Value} {x : DataW H} {p : List MemPlace} (h : DataW.Trod enc P w base spare held t (.agg cs) x p) :
    ∃ a : α, d.K w a cs.toList ∧ G a := by
  obtain ⟨fuel, hf⟩ := h
  exact ho.2 H enc w base spare held fuel _ _ hf

end Go.Proofs.Ytbjkaapkmemojaa.Mine
