/- Laws on memory that the printed texts of this session lean on: a conversion of a slice of bytes to its own type. Of no program. -/
import Derived.Test.YtjbhflicehnocaaWWords
import Derived.Test.YtjbhflicehnocaaWLast
import Derived.Test.YtjbhflicehnocaaWMore
import Derived.Lib.UnsafeStr
namespace Go.Proofs.Ytjbhflicehnocaa.Mine
open Go.RowKit Go.Proofs.YtjbhflicehnocaaW.PrintWords Go.Proofs.YtjbhflicehnocaaW.PrintLast Go.Proofs.YtjbhflicehnocaaW.PrintMore

theorem cell_freeze (w : World) (p a : Addr) (n : Nat) : (w.freeze p n).cell? a = w.cell? a := by
  unfold World.freeze
  split
  · rfl
  · unfold World.cell?
    simp only [Array.getElem?_modify]
    by_cases h : p.block = a.block
    · rw [if_pos h]
      cases w.heap[a.block]? with
      | none => rfl
      | some o => cases o <;> rfl
    · rw [if_neg h]
theorem C_freeze {α : Type} {d : Kd α} {w : World} {A : Option Addr} {n : Nat} {xs : List α} (hd : ∀ w1 x cs, d.K w x cs → d.K w1 x cs) (h : d.C w A n xs) (p : Addr) (m : Nat) : d.C (w.freeze p m) A n xs := by
  refine ⟨h.1, h.2.1, fun hp => ?_⟩
  obtain ⟨ad, e, hc⟩ := h.2.2 hp
  refine ⟨ad, e, fun j q hq => ?_⟩
  obtain ⟨c, h1, h2, h3⟩ := hc j q hq
  exact ⟨c, h1, hd _ _ _ h2, fun i u hu => by rw [cell_freeze]; exact h3 i u hu⟩
theorem C_alloc_ {α : Type} {d : Kd α} {w : World} {A : Option Addr} {n : Nat} {xs : List α} (o : Obj) (h : d.C w A n xs) : d.C (w.alloc o) A n xs := Kd.C_below h ((Below.refl _ _).alloc (Nat.le_refl _) _)
theorem C_drewN_ {α : Type} {d : Kd α} {w : World} {A : Option Addr} {n : Nat} {xs : List α} (m : Nat) (h : d.C w A n xs) : d.C (w.drewN m) A n xs := Kd.C_below h (pw_below_drewN (Below.refl _ _) m)
theorem C_drew_ {α : Type} {d : Kd α} {w : World} {A : Option Addr} {n : Nat} {xs : List α} (h : d.C w A n xs) : d.C w.drew A n xs := Kd.C_below h (below_drew1 (Below.refl _ _))
section
variable {P : Program} {ops : Array Oper} {rest : List Oper} {o : Oper} {a : Act} {Q : Exit → Act → World → Prop}
/-- A conversion of a row of bytes of one's own to its own type: it goes on as it is, its row is marked. -/
theorem conv_same {w0 W : World} {base e : Nat} (hgd : o.guard = none) {N : Tmp} (_hd : o.dst = some N) {t : TypeId} (x : Operand) (ho : o.op = .convert t t x) (ht : P.underlying t = some (.slice e)) (he : P.underlying e = some (.int .u8))
    {A : Option Addr} {n c : Nat} {ok : Nat → Prop} {xs : List Int} (hx : a.eval x = .slice A n c) (HO : Kd.R (Kd.int .u8) e W base ok (.slice A n c) xs) (hn : 0 < n) (HB : Below base w0 W)
    (h : ∀ w1, Kd.C (Kd.int .u8) w1 A n xs → Below base w0 w1 → wpList P ops Q rest (a.put o.dst (.slice A n c)) w1) : wpList P ops Q (o :: rest) a W := by
  obtain ⟨hlen, hnc, hC⟩ := Kd.R_reads' HO
  obtain ⟨_, inner, hown, _⟩ := HO
  rcases hown.2 with ⟨hv, _⟩ | ⟨g, cap, cur, hv, hg, hh, _⟩
  · injection hv with _ h2 _
    omega
  injection hv with h1 h2 h3
  subst h1; subst h3
  have hsh : W.shape? g = some (e, cur.size) := by unfold World.shape?; rw [hh]
  have hrun : (execOp a.eval o).run P W = .ok (.value (.slice (some ⟨g, 0, none⟩) n c)) (W.freeze ⟨g, cur.size, none⟩ 1) := by
    unfold execOp
    simp [ho, hx, convert, run_underlying ht, run_underlying he, markStringish, hsh]
  rw [← hlen] at hC
  exact Kd.event_run hgd hrun (h _ (C_freeze (fun _ _ _ hk => hk) hC _ _) (Go.Lib.below_freeze HB hg _))
end

end Go.Proofs.Ytjbhflicehnocaa.Mine
