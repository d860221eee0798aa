/- Laws on memory that the printed texts of this session lean on: a map from whole numbers to whole numbers that is made, filled with a few constants and asked once. Of no program. -/
import Derived.Test.YtbjkaapkmemojaaWWords
import Derived.Test.YtbjkaapkmemojaaWLast
import Derived.Test.YtbjkaapkmemojaaWMore
import Derived.MapKept
import Derived.Carry
namespace Go.Proofs.Ytbjkaapkmemojaa.Mine
open Go.RowKit Go.Proofs.YtbjkaapkmemojaaW.PrintWords Go.Proofs.YtbjkaapkmemojaaW.PrintLast Go.Proofs.YtbjkaapkmemojaaW.PrintMore

/-- What a map of a few pairs answers: the number beside the key, else 0. -/
def mapGet : List (Int × Int) → Int → Int
  | [], _ => 0
  | x :: r, k => if k = x.1 then x.2 else mapGet r k
def MapInt (w : World) (g : Nat) (l : List (Int × Int)) : Prop := ∃ es clock, w.heap[g]? = some (.map es clock) ∧ es.toList.map (fun e => (e.key, e.val)) = l.map (fun x => (Value.int .i64 x.1, Value.int .i64 x.2))
theorem find_none (k : Int) : ∀ (l : List (Int × Int)) (es : List MapEntry) (i : Nat), es.map (fun e => (e.key, e.val)) = l.map (fun x => (Value.int .i64 x.1, Value.int .i64 x.2)) → (∀ x ∈ l, ¬ k = x.1) → Instr.findNow (.int .i64) (.int .i64 k) es i = some none := by
  intro l
  induction l with
  | nil => intro es i h _; have : es = [] := by simpa using h
           subst this; rfl
  | cons x r ih =>
    intro es i h hk
    cases es with
    | nil => simp at h
    | cons e es =>
      simp only [List.map_cons, List.cons.injEq, Prod.mk.injEq] at h
      unfold Instr.findNow
      rw [h.1.1]
      have : (k == x.1) = false := beq_eq_false_iff_ne.mpr (hk x (by simp))
      simp only [Instr.sameNow, if_true, this]
      exact ih es (i + 1) h.2 fun y hy => hk y (by simp [hy])
theorem find_get (k : Int) : ∀ (l : List (Int × Int)) (es : List MapEntry) (i : Nat), es.map (fun e => (e.key, e.val)) = l.map (fun x => (Value.int .i64 x.1, Value.int .i64 x.2)) →
    (Instr.findNow (.int .i64) (.int .i64 k) es i = some none ∧ mapGet l k = 0) ∨ ∃ j, Instr.findNow (.int .i64) (.int .i64 k) es i = some (some (j, .int .i64 (mapGet l k))) := by
  intro l
  induction l with
  | nil => intro es i h; have : es = [] := by simpa using h
           subst this; exact .inl ⟨rfl, rfl⟩
  | cons x r ih =>
    intro es i h
    cases es with
    | nil => simp at h
    | cons e es =>
      simp only [List.map_cons, List.cons.injEq, Prod.mk.injEq] at h
      unfold Instr.findNow mapGet
      rw [h.1.1]
      by_cases c : k = x.1
      · have : (k == x.1) = true := beq_iff_eq.mpr c
        simp only [Instr.sameNow, if_true, this, if_pos c]
        exact .inr ⟨i, by rw [h.1.2]⟩
      · have : (k == x.1) = false := beq_eq_false_iff_ne.mpr c
        simp only [Instr.sameNow, if_true, this, if_neg c]
        exact ih es (i + 1) h.2
section
variable {P : Program} {ops : Array Oper} {rest : List Oper} {o : Oper} {a : Act} {Q : Exit → Act → World → Prop}
theorem event_skip {W w1 : World} (hgd : o.guard = none) (hrun : (execOp a.eval o).run P W = .ok .skip w1) (h : wpList P ops Q rest (a.put o.dst undef) w1) : wpList P ops Q (o :: rest) a W := by
  refine wpList_plain hgd fun K hK => ?_
  unfold Oper.wp
  rw [hrun]
  exact hK _ _ h
theorem checkInt (w : World) (e : Bool) (n : Nat) (kt : TypeId) (hd : P.underlying kt = some (.int .i64)) (k : Int) : (Instr.checkKey e (n + 1) kt (.int .i64 k)).run P w = .ok () w := by
  unfold Instr.checkKey
  simp [run_underlying hd]
theorem map_make {w0 W : World} {base : Nat} (hgd : o.guard = none) {t : TypeId} (ho : o.op = .makeMap t none) (hbase : base ≤ W.heap.size) (HB : Below base w0 W)
    (h : ∀ w1 g, MapInt w1 g [] → base ≤ g → Below base w0 w1 → wpList P ops Q rest (a.put o.dst (.map (some g))) w1) : wpList P ops Q (o :: rest) a W := by
  have hrun : (execOp a.eval o).run P W = .ok (.value (.map (some W.heap.size))) (W.alloc (.map #[] 0)) := by
    unfold execOp
    simp only [ho]
    rfl
  refine Kd.event_run hgd hrun (h _ _ ⟨#[], 0, ?_, rfl⟩ hbase (HB.alloc hbase _))
  unfold World.alloc
  simp
theorem map_insert {w0 W : World} {base g : Nat} {l : List (Int × Int)} (hgd : o.guard = none) (hdst : o.dst = none) {t kt et : TypeId} (m : Operand) (k v : Int) (ho : o.op = .insert t m (.const (.int .i64 k)) (.const (.int .i64 v))) (ht : P.underlying t = some (.map kt et)) (hkt : P.underlying kt = some (.int .i64))
    (hm : a.eval m = .map (some g)) (HM : MapInt W g l) (hg : base ≤ g) (hk : ∀ x ∈ l, ¬ k = x.1) (HB : Below base w0 W)
    (h : ∀ w1, MapInt w1 g (l ++ [(k, v)]) → Below base w0 w1 → wpList P ops Q rest a w1) : wpList P ops Q (o :: rest) a W := by
  obtain ⟨es, clock, hb, he⟩ := HM
  have hf := find_none k l es.toList 0 he hk
  have hlt : g < W.heap.size := (Array.getElem?_eq_some_iff.mp hb).1
  have hrun : (execOp a.eval o).run P W = .ok .skip { W with heap := W.heap.setIfInBounds g (.map (es.push { key := .int .i64 k, val := .int .i64 v, born := clock }) (clock + 1)) } := by
    unfold execOp
    simp only [ho]
    have e1 : a.eval (.const (.int .i64 k)) = .int .i64 k := rfl
    have e2 : a.eval (.const (.int .i64 v)) = .int .i64 v := rfl
    rw [hm, e1, e2]
    simp [Instr.mapUpdate, run_underlying ht, MapKept.run_getObj_map hb, checkInt W false 9999 kt hkt k, Instr.findKey, run_underlying hkt, hf, MapKept.run_setObj_map _ hb, Result.andThen]
  refine event_skip hgd hrun ?_
  rw [hdst]
  refine h _ ⟨es.push { key := .int .i64 k, val := .int .i64 v, born := clock }, clock + 1, ?_, ?_⟩ ⟨HB.os, HB.tape, HB.output, ?_, ?_⟩
  · show (W.heap.setIfInBounds g _)[g]? = _
    rw [Array.getElem?_setIfInBounds_self_of_lt hlt]
  · rw [Array.toList_push, List.map_append, List.map_append, he]; rfl
  · show w0.heap.size ≤ (W.heap.setIfInBounds g _).size
    rw [Array.size_setIfInBounds]; exact HB.size
  · intro j hj
    show (W.heap.setIfInBounds g _)[j]? = _
    rw [Array.getElem?_setIfInBounds_ne (by omega)]
    exact HB.block j hj
theorem map_look {w0 W : World} {base g : Nat} {l : List (Int × Int)} (hgd : o.guard = none) {t kt et : TypeId} (m x : Operand) (ho : o.op = .lookup t m x false) (ht : P.underlying t = some (.map kt et)) (hkt : P.underlying kt = some (.int .i64)) (het : P.underlying et = some (.int .i64))
    (k : Int) (hm : a.eval m = .map (some g)) (hx : a.eval x = .int .i64 k) (HM : MapInt W g l) (hz : (zeroValue et).run P W = .ok (.int .i64 0) W)
    (h : wpList P ops Q rest (a.put o.dst (.int .i64 (mapGet l k))) W) : wpList P ops Q (o :: rest) a W := by
  obtain ⟨es, clock, hb, he⟩ := HM
  have hrun : (execOp a.eval o).run P W = .ok (.value (.int .i64 (mapGet l k))) W := by
    unfold execOp
    simp only [ho]
    rw [hm, hx]
    rcases find_get k l es.toList 0 he with ⟨hf, h0⟩ | ⟨j, hf⟩
    · simp [Instr.lookup, run_underlying ht, MapKept.run_getObj_map hb, checkInt W _ 9999 kt hkt k, Instr.findKey, run_underlying hkt, hf, hz, h0, Result.andThen]
    · simp [Instr.lookup, run_underlying ht, MapKept.run_getObj_map hb, checkInt W _ 9999 kt hkt k, Instr.findKey, run_underlying hkt, hf, Result.andThen]
  exact Kd.event_run hgd hrun h
end
end Go.Proofs.Ytbjkaapkmemojaa.Mine
