/- Laws on memory that the printed texts of this session lean on: a conversion of a slice of bytes to its own type. Of no program. -/
import Derived.Test.YtbjkaapkmemojaaWWords
import Derived.Test.YtbjkaapkmemojaaWLast
import Derived.Test.YtbjkaapkmemojaaWMore
import Derived.Lib.UnsafeStr
namespace Go.Proofs.Ytbjkaapkmemojaa.Mine
open Go.RowKit Go.Proofs.YtbjkaapkmemojaaW.PrintWords Go.Proofs.YtbjkaapkmemojaaW.PrintLast Go.Proofs.YtbjkaapkmemojaaW.PrintMore

theorem cell_freeze (w : World) (p a : Addr) (n : Nat) : (w.freeze p n).cell? a = w.cell? a := by
  unfold World.freeze
  split
  · rfl
  · unfold World.cell?
    simp only [Array.getElem?_modify]
    by_cases h : p.block = a.block
    · rw [if_pos h]
      cases w.heap[a.block]? with
      | none => rfl
      | some o => cases o <;> rfl
    · rw [if_neg h]
theorem C_freeze {α : Type} {d : Kd α} {w : World} {A : Option Addr} {n : Nat} {xs : List α} (hd : ∀ w1 x cs, d.K w x cs → d.K w1 x cs) (h : d.C w A n xs) (p : Addr) (m : Nat) : d.C (w.freeze p m) A n xs := by
  refine ⟨h.1, h.2.1, fun hp => ?_⟩
  obtain ⟨ad, e, hc⟩ := h.2.2 hp
  refine ⟨ad, e, fun j q hq => ?_⟩
  obtain ⟨c, h1, h2, h3⟩ := hc j q hq
  exact ⟨c, h1, hd _ _ _ h2, fun i u hu => by rw [cell_freeze]; exact h3 i u hu⟩
theorem C_alloc_ {α : Type} {d : Kd α} {w : World} {A : Option Addr} {n : Nat} {xs : List α} (o : Obj) (h : d.C w A n xs) : d.C (w.alloc o) A n xs := Kd.C_below h ((Below.refl _ _).alloc (Nat.le_refl _) _)
theorem C_drewN_ {α : Type} {d : Kd α} {w : World} {A : Option Addr} {n : Nat} {xs : List α} (m : Nat) (h : d.C w A n xs) : d.C (w.drewN m) A n xs := Kd.C_below h (pw_below_drewN (Below.refl _ _) m)
theorem C_drew_ {α : Type} {d : Kd α} {w : World} {A : Option Addr} {n : Nat} {xs : List α} (h : d.C w A n xs) : d.C w.drew A n xs := Kd.C_below h (below_drew1 (Below.refl _ _))
section
variable {P : Program} {ops : Array Oper} {rest : List Oper} {o : Oper} {a : Act} {Q : Exit → Act → World → Prop}
/-- A conversion of a row of bytes of one's own to its own type: it goes on as it is, its row is marked. -/
theorem conv_same {w0 W : World} {base e : Nat} (hgd : o.guard = none) {N : Tmp} (_hd : o.dst = some N) {t : TypeId} (x : Operand) (ho : o.op = .convert t t x) (ht : P.underlying t = some (.slice e)) (he : P.underlying e = some (.int .u8))
    {A : Option Addr} {n c : Nat} {ok : Nat → Prop} {xs : List Int} (hx : a.eval x = .slice A n c) (HO : Kd.R (Kd.int .u8) e W base ok (.slice A n c) xs) (hn : 0 < n) (HB : Below base w0 W)
    (h : ∀ w1, Kd.C (Kd.int .u8) w1 A n xs → Below base w0 w1 → wpList P ops Q rest (a.put o.dst (.slice A n c)) w1) : wpList P ops Q (o :: rest) a W := by
  obtain ⟨hlen, hnc, hC⟩ := Kd.R_reads' HO
  obtain ⟨_, inner, hown, _⟩ := HO
  rcases hown.2 with ⟨hv, _⟩ | ⟨g, cap, cur, hv, hg, hh, _⟩
  · injection hv with _ h2 _
    omega
  injection hv with h1 h2 h3
  subst h1; subst h3
  have hsh : W.shape? g = some (e, cur.size) := by unfold World.shape?; rw [hh]
  have hrun : (execOp a.eval o).run P W = .ok (.value (.slice (some ⟨g, 0, none⟩) n c)) (W.freeze ⟨g, cur.size, none⟩ 1) := by
    unfold execOp
    simp [ho, hx, convert, run_underlying ht, run_underlying he, markStringish, hsh]
  rw [← hlen] at hC
  exact Kd.event_run hgd hrun (h _ (C_freeze (fun _ _ _ hk => hk) hC _ _) (Go.Lib.below_freeze HB hg _))
end

/-- A text made of a row that shares. -/
theorem V_string {P : Program} {w : World} {src dst e : TypeId} {A : Option Addr} {n c : Nat} {xs : List Int} {e' base : Nat} {ok : Nat → Prop} (hs : P.underlying src = some (.slice e)) (he : P.underlying e = some (.int .u8)) (hd : P.underlying dst = some .string)
    (h : Kd.V (Kd.int .u8) e' w base ok (.slice A n c) xs) : (convert src dst (.slice A n c)).run P w = .ok (.string (strOfNums xs)) w := by
  obtain ⟨hn, _, hc⟩ := Kd.V_reads' h
  subst hn
  exact Kd.C_string hs he hd hc
/-- append of one element as a step of a region that draws; the world may be spelt otherwise. -/
theorem append_step {P : Program} {ops : Array Oper} {o : Oper} {a : Act} {Q : Exit → Act → World → Prop} {Kc : Act → World → Prop} {α : Type} (d : Kd α) {w0 Wg : World} (W : World) (base : Nat) (hw : Region.wanted o (yielded ops a.tmps) = true) (s x : Operand) (t e : TypeId) (z : Value) (bytes : Nat)
    (ho : o.op = .call { callee := .builtin .append, args := #[s, x], argTypes := #[t, t] })
    (ht : P.underlying t = some (.slice e)) (hinfo : (P.info? e).map (fun i => (i.zero, i.size, i.bytes)) = some (some z, d.sz, bytes)) (hz : z.cells.size = d.sz) (hs0 : 0 < d.sz) (hb0 : 0 < bytes)
    (v : Value) (xs : List α) (p : α) (cs : List Value) (hWg : Wg = W.alloc (.cells cs.toArray e)) (hs : a.eval s = v) (hx : a.eval x = .slice (some ⟨W.heap.size, 0, none⟩) 1 1) (hp : d.M W base (fun _ => False) p cs)
    (HO : d.R e W base (fun _ => True) v xs) (HB : Below base w0 W) (hbase : base ≤ W.heap.size) (hl : (xs.length + 1) * bytes ≤ 140737488355328)
    (h : ∀ v1 w1, d.R e w1 base (fun _ => True) v1 (xs ++ [p]) → Below base w0 w1 → W.grownBy w1 v.ownBlock → (v1.ownBlock = v.ownBlock ∨ ∃ b, v1.ownBlock = some b ∧ W.heap.size ≤ b) → Kc (a.put o.dst v1) w1) :
    if Region.wanted o (yielded ops a.tmps) = true then Oper.wp P o a Wg Kc Q else Kc (a.put o.dst undef) Wg := by
  subst hWg
  exact Kd.R_append_step d base hw s x t e z bytes ho ht hinfo hz hs0 hb0 v xs p cs (fun _ => True) (fun _ => False) hs hx hp (fun _ h => h.elim) (fun _ _ => trivial) HO HB hbase hl h
end Go.Proofs.Ytbjkaapkmemojaa.Mine
