-- Written by a program of this session, out of the translation.
import Derived.Test.YtbjkaapkmemojaaPFnExactSourceRunx0
import Derived.Test.YtbjkaapkmemojaaPFnExactSourceRunx1
import Derived.Test.YtbjkaapkmemojaaPFnExactSourceRunx2
import Derived.Test.YtbjkaapkmemojaaPFnExactSourceRunx4
import Derived.Test.YtbjkaapkmemojaaPFnExactSourceRunx5
import Derived.Test.YtbjkaapkmemojaaPFnExactSourceRunx6
namespace Go.Proofs.Ytbjkaapkmemojaa.PFnExactSourceRun
open Go.RowKit Go.Proofs.YtbjkaapkmemojaaW.PrintWords Go.Proofs.YtbjkaapkmemojaaW.PrintLast Go.Proofs.YtbjkaapkmemojaaW.PrintMore
attribute [local go_sem] max2_int min2_int max_two min_two max_three min_three max_four min_four   -- for this text's walks alone
set_option linter.unusedVariables false
set_option linter.unusedSimpArgs false

/-! ### spec_SourceByte: function 21 -/
theorem rd_at_I {b : List Int} {i : Nat} (h : i < b.length) : rd b (i : Int) = b[i] := by
  unfold rd
  rw [show (i : Int).toNat = i from rfl, List.getD_eq_getElem?_getD, List.getElem?_eq_getElem h]
  rfl
theorem l02Part_l0 (b : List Int) (hb : b.length ≤ 1048576) (from_ n : Nat) (hf : from_ ≤ 1000000000) (hn : n ≤ 1000000000) : ∀ (d k i : Nat) (acc : List Int), i + d = from_ + n → d + 1 ≤ k → acc.length + d ≤ 4000000000 →
    spec_l02Part.l0 k b (from_ : Int) (n : Int) acc (i : Int) = some (acc ++ (b.drop i).take d)
  | 0, k, i, acc, hi, hk, _ => by
    obtain ⟨k, rfl⟩ : ∃ m, k = m + 1 := ⟨k - 1, by omega⟩
    rw [spec_l02Part.l0, w64 (by omega) (by omega), if_neg (by omega), List.take_zero, List.append_nil]
  | d + 1, k, i, acc, hi, hk, ha => by
    obtain ⟨k, rfl⟩ : ∃ m, k = m + 1 := ⟨k - 1, by omega⟩
    rw [spec_l02Part.l0, w64 (by omega) (by omega), if_pos (by omega)]
    by_cases h : i < b.length
    · rw [if_pos (by omega), if_pos (by omega), if_pos (by omega), w64 (by omega) (by omega), show (i : Int) + 1 = ((i + 1 : Nat) : Int) by omega,
        l02Part_l0 b hb from_ n hf hn d k (i + 1) _ (by omega) (by omega) (by rw [List.length_append, List.length_singleton]; omega), rd_at_I h, List.drop_eq_getElem_cons h, List.take_succ_cons, List.append_assoc]
      rfl
    · rw [if_neg (by omega), List.drop_of_length_le (by omega), List.take_nil, List.append_nil]
theorem part_eq (a num : Int) (b : List Int) (h0 : 0 ≤ num * a) (ha : 1 ≤ a) : bzPart a b num = (b.drop (num * a).toNat).take a.toNat := by
  unfold bzPart
  obtain ⟨m, hm⟩ : ∃ m : Nat, num * a = m := ⟨(num * a).toNat, by omega⟩
  obtain ⟨n, rfl⟩ : ∃ n : Nat, a = n := ⟨a.toNat, by omega⟩
  rw [hm, Int.toNat_natCast, Int.toNat_natCast]
  by_cases h : m ≤ b.length
  · rw [show min (m : Int) (b.length : Int) = (m : Int) by omega, Int.toNat_natCast]
    by_cases h2 : m + n ≤ b.length
    · rw [show (min ((m : Int) + (n : Int)) (b.length : Int)).toNat - m = n by omega]
    · rw [show (min ((m : Int) + (n : Int)) (b.length : Int)).toNat - m = b.length - m by omega, List.take_of_length_le (by rw [List.length_drop]; omega), List.take_of_length_le (by rw [List.length_drop]; omega)]
  · rw [show min (m : Int) (b.length : Int) = (b.length : Int) by omega, Int.toNat_natCast, List.drop_of_length_le (Nat.le_refl _), List.drop_of_length_le (by omega), List.take_nil, List.take_nil]
theorem last_snoc (L : List S58) (p : S58) : rd_T58 (L ++ [p]) (((L ++ [p]).length : Int) - 1) = p := by
  unfold rd_T58
  rw [List.length_append, List.length_singleton, show (((L.length + 1 : Nat) : Int) - 1).toNat = L.length by omega, List.getD_eq_getElem?_getD, List.getElem?_append_right (Nat.le_refl _), Nat.sub_self]
  rfl
/-- The page of a number, as pgAt finds it. -/
theorem pgAt_no (num : Int) (l : List S58) : ∀ i : Nat, pgAt num (l.drop i) (i : Int) = -1 → ∀ j, i ≤ j → (h : j < l.length) → l[j].f0 ≠ num := by
  intro i h j hij hj
  induction hn : l.length - i generalizing i with
  | zero => omega
  | succ n ih =>
    have hil : i < l.length := by omega
    rw [List.drop_eq_getElem_cons hil, pgAt] at h
    split at h
    · omega
    · rename_i hx
      rcases Nat.eq_or_lt_of_le hij with rfl | hlt
      · exact hx
      · exact ih (i + 1) (by rw [← h]; rfl) (by omega) (by omega)
theorem pgAt_yes (num : Int) (l : List S58) (k : Nat) : ∀ i : Nat, pgAt num (l.drop i) (i : Int) = (k : Int) → i ≤ k ∧ ∃ h : k < l.length, l[k].f0 = num ∧ ∀ j, i ≤ j → (h2 : j < k) → l[j].f0 ≠ num := by
  intro i h
  induction hn : l.length - i generalizing i with
  | zero => rw [List.drop_of_length_le (by omega), pgAt] at h; omega
  | succ n ih =>
    have hil : i < l.length := by omega
    rw [List.drop_eq_getElem_cons hil, pgAt] at h
    split at h
    · rename_i hx
      have : i = k := by omega
      subst this
      exact ⟨Nat.le_refl _, hil, hx, fun j h1 h2 => by omega⟩
    · rename_i hx
      obtain ⟨h1, h2, h3, h4⟩ := ih (i + 1) (by rw [← h]; rfl) (by omega)
      refine ⟨by omega, h2, h3, fun j hj h5 => ?_⟩
      rcases Nat.eq_or_lt_of_le hj with rfl | hlt
      · exact hx
      · exact h4 j hlt h5
/-- Pages of right sources have numbers of their own. -/
theorem pgAll_at (a : Int) (l : List S58) : ∀ (d i : Nat), pgAll a l d i = true → ∀ j, i ≤ j → j < i + d → pgGood a l j
  | 0, i, _, j, h1, h2 => by omega
  | d + 1, i, h, j, h1, h2 => by
    rw [pgAll, Bool.and_eq_true, decide_eq_true_eq] at h
    rcases Nat.eq_or_lt_of_le h1 with rfl | hlt
    · exact h.1
    · exact pgAll_at a l d (i + 1) h.2 j hlt (by omega)
theorem pg_apart (a : Int) (l : List S58) (h : pgAll a l l.length 0 = true) (i j : Nat) (hij : i < j) (hj : j < l.length) : l[i].f0 ≠ l[j].f0 := by
  have hg := (pgAll_at a l l.length 0 h j (by omega) (by omega)).2.2
  rw [rd_at_P hj] at hg
  have hne : pgAt l[j].f0 (l.take j) 0 = -1 := by
    rcases pgAt_nn l[j].f0 (l.take j) 0 (Int.le_refl _) with h1 | h1
    · exact h1
    · omega
  have := pgAt_no l[j].f0 (l.take j) 0 hne i (Nat.zero_le _) (by rw [List.length_take]; omega)
  rwa [List.getElem_take] at this
def LLp (l : List S58) (K i : Nat) : List S58 := if K < i then (l.take i).eraseIdx K else l.take i
def DDp (l : List S58) (K i : Nat) : List Int := if K < i then (rd_T58 l (K : Int)).f1 else []
theorem LLp_other (l : List S58) (K i : Nat) (h : i < l.length) (hne : i ≠ K) : LLp l K (i + 1) = LLp l K i ++ [l[i]] := by
  unfold LLp
  rw [← List.take_append_getElem h]
  by_cases hk : K < i
  · rw [if_pos (by omega), if_pos hk, List.eraseIdx_append_of_lt_length (by rw [List.length_take]; omega)]
  · rw [if_neg (by omega), if_neg hk]
theorem LLp_it (l : List S58) (K : Nat) (h : K < l.length) : LLp l K (K + 1) = LLp l K K := by
  unfold LLp
  rw [← List.take_append_getElem h, if_pos (by omega), if_neg (by omega), List.eraseIdx_append_of_length_le (by rw [List.length_take]; omega), List.length_take, show K - min K l.length = 0 by omega]
  simp
theorem LLp_len (l : List S58) (K i : Nat) : (LLp l K i).length ≤ l.length := by
  unfold LLp
  have h := List.length_take_le i l
  split
  · have := List.length_eraseIdx_le (l.take i) K
    have h2 : (l.take i).length ≤ l.length := by rw [List.length_take]; omega
    omega
  · rw [List.length_take]; omega
theorem erase0 (l : List S58) (p : S58) (h : 0 < l.length) : (l ++ [p]).eraseIdx 0 = l.drop 1 ++ [p] := by
  cases l with
  | nil => simp at h
  | cons x r => rfl
theorem bzX_snoc (a at_ num : Int) (L : List S58) (p : List Int) : bzX a (L ++ [(⟨num, p⟩ : S58)]) at_ = if (p.length : Int) ≤ at_ % a then -1 else wrap64 (rd p (at_ % a)) := by
  unfold bzX
  rw [last_snoc]
theorem part_f (a num : Int) (b : List Int) (hb : b.length ≤ 1048576) (h0 : 0 ≤ num * a) (h1 : num * a ≤ 60000) (ha : 1 ≤ a) (ha2 : a ≤ 60000) : spec_l02Part.f 100000 b (num * a) a = some (bzPart a b num) := by
  unfold spec_l02Part.f
  obtain ⟨m, hm⟩ : ∃ m : Nat, num * a = m := ⟨(num * a).toNat, by omega⟩
  obtain ⟨n, hn⟩ : ∃ n : Nat, a = n := ⟨a.toNat, by omega⟩
  have h2 := l02Part_l0 b hb m n (by omega) (by omega) n 100000 m [] (by omega) (by omega) (by rw [List.length_nil]; omega)
  rw [List.nil_append] at h2
  rw [part_eq a num b h0 ha, hm, hn, Int.toNat_natCast, Int.toNat_natCast]
  exact h2
theorem Q_fill {W : World} {lo : Nat} {ok : Nat → Prop} {v : Value} {l : List S58} {g : Nat} {cells : Array Value} (hS : Kd.Q k58 58 W lo ok v l) (hz : W.heap[g]? = some (.cells cells 24 (0, 0))) (u0 u1 u2 : Value) :
    Kd.Q k58 58 (((W.setCell ⟨g, 0, none⟩ u0).setCell ⟨g, 1, none⟩ u1).setCell ⟨g, 2, none⟩ u2) lo ok v l :=
  Kd.Q_set (Kd.Q_set (Kd.Q_set hS hz (by decide) 0 u0) (blk_set hz 0 u0) (by decide) 1 u1) (blk_set (blk_set hz 0 u0) 1 u1) (by decide) 2 u2
/-- The same, the pages' row may begin inside its block. -/
def SQt (lo : Nat) (ok : Nat → Prop) (W : World) (g : Nat) (a : Int) (l : List S58) (f : Int) : Prop :=
  ∃ A c, W.heap[g]? = some (.cells #[.int .i64 a, .slice A l.length c, .int .i64 f] 24 (0, 0)) ∧ Kd.Q k58 58 W lo ok (.slice A l.length c) l
section
variable {lo : Nat} {ok ok' : Nat → Prop} {W W1 : World} {g : Nat} {a f : Int} {l : List S58}
theorem SQt.step (h : SQt lo ok W g a l f) (hm : ∀ k, (ok k ∨ k = g) → k < W.heap.size → W1.heap[k]? = W.heap[k]?) : SQt lo ok W1 g a l f := by
  obtain ⟨A, c, hb, hS⟩ := h
  exact ⟨A, c, (hm g (.inr rfl) (blk_lt hb)).trans hb, Kd.Q_step hS (fun k hk hl => hm k (.inl hk) hl)⟩
theorem SQt.below (h : SQt lo ok W g a l f) (hw : Below W.heap.size W W1) : SQt lo ok W1 g a l f := h.step (fun k _ hk => hw.block k hk)
theorem SQt.alloc (h : SQt lo ok W g a l f) (o : Obj) : SQt lo ok (W.alloc o) g a l f := h.below (below_alloc (Below.refl _ _) o)
theorem SQt.drewN (h : SQt lo ok W g a l f) (m : Nat) : SQt lo ok (W.drewN m) g a l f := h.below (pw_below_drewN (Below.refl _ _) m)
theorem SQt.drew (h : SQt lo ok W g a l f) : SQt lo ok W.drew g a l f := h.below (below_drew (Below.refl _ _))
theorem SQt.mono (h : SQt lo ok W g a l f) (hok : ∀ k, ok k → ok' k) : SQt lo ok' W g a l f := by
  obtain ⟨A, c, hb, hS⟩ := h
  exact ⟨A, c, hb, Kd.Q_mono hS hok⟩
theorem SQt.lt (h : SQt lo ok W g a l f) : g < W.heap.size := by
  obtain ⟨A, c, hb, hS⟩ := h
  exact blk_lt hb
/-- Its blocks are bounded. -/
theorem SQt.bound (h : SQt lo ok W g a l f) : SQt lo (fun k => ok k ∧ k < W.heap.size) W g a l f := by
  obtain ⟨A, c, hb, hS⟩ := h
  exact ⟨A, c, hb, Kd.Q_mono (Kd.Q_bound hS) (fun k hk => ⟨hk.1, hk.2.2.1⟩)⟩
/-- A store into a block of another type. -/
theorem SQt.other (h : SQt lo ok W g a l f) {g' t : Nat} {cells : Array Value} (hb' : W.heap[g']? = some (.cells cells t (0, 0))) (ht : t ≠ 58 ∧ t ≠ 5) (hg : g ≠ g') (j : Nat) (u : Value) : SQt lo ok (W.setCell ⟨g', j, none⟩ u) g a l f := by
  obtain ⟨A, c, hb, hS⟩ := h
  exact ⟨A, c, (Below.heap_setCell W _ u g hg).trans hb, Kd.Q_set hS hb' (fun q hq => by
    have : q = 58 ∨ q = 5 := by simpa [k58, Kd.iso, Kd.pair, Kd.slice, Kd.int, Kd.scalar] using hq
    rcases this with rfl | rfl
    · exact fun he => ht.1 he.symm
    · exact fun he => ht.2 he.symm) j u⟩
theorem SQt.set_0 (h : SQt lo ok W g a l f) (x : Int) : SQt lo ok (W.setCell ⟨g, 0, none⟩ (.int .i64 x)) g x l f := by
  obtain ⟨A, c, hb, hS⟩ := h
  have h1 := blk_set hb 0 (.int .i64 x)
  exact ⟨A, c, h1, Kd.Q_set hS hb (by decide) 0 _⟩
theorem SQt.set_2 (h : SQt lo ok W g a l f) (x : Int) : SQt lo ok (W.setCell ⟨g, 2, none⟩ (.int .i64 x)) g a l x := by
  obtain ⟨A, c, hb, hS⟩ := h
  have h1 := blk_set hb 2 (.int .i64 x)
  exact ⟨A, c, h1, Kd.Q_set hS hb (by decide) 2 _⟩
theorem SQt.cells (h : SQt lo ok W g a l f) : ∃ A c, W.heap[g]? = some (.cells #[.int .i64 a, .slice A l.length c, .int .i64 f] 24 (0, 0)) ∧ W.cell? ⟨g, 0, none⟩ = some (.int .i64 a) ∧ W.cell? ⟨g, 1, none⟩ = some (.slice A l.length c) ∧ W.cell? ⟨g, 2, none⟩ = some (.int .i64 f) ∧ (∀ j, W.frozen? ⟨g, j, none⟩ = false) ∧ Kd.Q k58 58 W lo ok (.slice A l.length c) l := by
  obtain ⟨A, c, hb, hS⟩ := h
  exact ⟨A, c, hb, (blk_cell hb 0).trans rfl, (blk_cell hb 1).trans rfl, (blk_cell hb 2).trans rfl, blk_frozen hb, hS⟩
/-- The row of pages has been written, and its header stored. -/
theorem SQt.grown {A : Option Addr} {c n : Nat} (hb : W.heap[g]? = some (.cells #[.int .i64 a, .slice A n c, .int .i64 f] 24 (0, 0))) {v1 : Value} {w1 : World} {l' : List S58} {row : Option Nat} (hr : Kd.Q k58 58 w1 lo ok v1 l') (hg1 : W.grownBy w1 row) (hne : some g ≠ row) :
    w1.cell? ⟨g, 0, none⟩ = some (.int .i64 a) ∧ w1.cell? ⟨g, 1, none⟩ = some (.slice A n c) ∧ w1.cell? ⟨g, 2, none⟩ = some (.int .i64 f) ∧ (∀ j, w1.frozen? ⟨g, j, none⟩ = false) ∧ SQt lo ok (w1.setCell ⟨g, 1, none⟩ v1) g a l' f := by
  have hb' := blk_grown hb hg1 hne
  obtain ⟨A1, c1, rfl, _⟩ := Kd.Q_slice hr
  have hs := blk_set hb' 1 (.slice A1 l'.length c1)
  exact ⟨(blk_cell hb' 0).trans rfl, (blk_cell hb' 1).trans rfl, (blk_cell hb' 2).trans rfl, blk_frozen hb', A1, c1, hs, Kd.Q_set hr hb' (by decide) 1 _⟩
end
theorem R_empty {α : Type} (d : Kd α) (e : Nat) {W : World} {base : Nat} {ok : Nat → Prop} (hb : base ≤ W.heap.size) (hok : ok W.heap.size) : d.R e (W.alloc (.cells #[] e)) base ok (.slice (some ⟨W.heap.size, 0, none⟩) 0 0) [] := by
  refine ⟨fun k hk => ?_, [], ?_, Reps.none _ _⟩
  · have : W.heap.size = k := by simpa [Value.ownBlock] using hk
    subst this
    exact hok
  · exact World.ownsRow_made W #[] 0 hb (by decide) (by simp)
/-- A copy of a page's bytes: behind 'append([]byte{}, data...)'. -/
theorem bytes_append {ops : Array Oper} {o : Oper} {a : Act} {Q : Exit → Act → World → Prop} {Kc : Act → World → Prop} {w0 W : World} (lo : Nat) (hw : Region.wanted o (yielded ops a.tmps) = true) (s x : Operand) (l : List Int) (A : Option Addr) (c : Nat)
    (ho : o.op = .call { callee := .builtin .append, args := #[s, x], argTypes := #[30, 30] }) (hs : a.eval s = .slice (some ⟨W.heap.size, 0, none⟩) 0 0) (hx : a.eval x = .slice A l.length c)
    (hC : Kd.C (Kd.int .u8) W A l.length l) (hl : l.length ≤ 1000000000000) (HB : Below lo w0 W) (hlo : lo ≤ W.heap.size)
    (h : ∀ v1 w1, Kd.R (Kd.int .u8) 5 w1 W.heap.size (fun _ => True) v1 l → Below W.heap.size W w1 → Kc (a.put o.dst v1) w1) :
    if Region.wanted o (yielded ops a.tmps) = true then Oper.wp Try.prog o a (W.alloc (.cells #[] 5)) Kc Q else Kc (a.put o.dst undef) (W.alloc (.cells #[] 5)) := by
  refine Kd.R_append_rows_step (Kd.int .u8) (w0 := W) W.heap.size hw s x 30 5 (.int .u8 0) 1 ho Try.underlying30 info5 rfl (by decide) (by omega) (.slice (some ⟨W.heap.size, 0, none⟩) 0 0) [] l A l.length c (fun _ => True) (fun _ => False) hs hx (R_empty _ _ (Nat.le_refl _) trivial) (Kd.C_alloc hC _) (fun _ _ h => h) (fun _ h => h.elim) (fun _ _ => trivial) (below_alloc (Below.refl _ _) _) (by rw [World.size_alloc]; omega) (by rw [List.length_nil]; omega) ?_
  intro v1 w1 hr hb _ _
  rw [List.nil_append] at hr
  exact h v1 w1 hr hb
theorem page_appendQ {ops : Array Oper} {o : Oper} {a : Act} {Q : Exit → Act → World → Prop} {Kc : Act → World → Prop} {w0 W Wg : World} (lo : Nat) (ok okp : Nat → Prop) (hw : Region.wanted o (yielded ops a.tmps) = true) (s x : Operand) (v v6 : Value) (l : List S58) (p : S58)
    (ho : o.op = .call { callee := .builtin .append, args := #[s, x], argTypes := #[22, 22] }) (hWg : Wg = W.alloc (.cells #[.int .i64 p.f0, v6] 58)) (hs : a.eval s = v) (hx : a.eval x = .slice (some ⟨W.heap.size, 0, none⟩) 1 1)
    (hp : Kd.R (Kd.int .u8) 5 W lo okp v6 p.f1) (hS : Kd.Q k58 58 W lo ok v l) (hokp : ∀ k, okp k → ok k ∧ some k ≠ v.ownBlock) (hfresh : ∀ k, W.heap.size ≤ k → ok k) (HB : Below lo w0 W) (hlo : lo ≤ W.heap.size) (hl : l.length ≤ 1000000)
    (h : ∀ v1 w1, Kd.Q k58 58 w1 lo ok v1 (l ++ [p]) → Below lo w0 w1 → W.grownBy w1 v.ownBlock → Kc (a.put o.dst v1) w1) :
    if Region.wanted o (yielded ops a.tmps) = true then Oper.wp Try.prog o a Wg Kc Q else Kc (a.put o.dst undef) Wg := by
  subst hWg
  exact Kd.Q_append_step k58 lo hw s x 22 58 _ 32 ho Try.underlying22 info58 rfl (by decide) (by decide) v l p [.int .i64 p.f0, v6] ok okp hs hx (k58_mkM _ _ _ _ hp) hokp hfresh hS HB hlo (by omega) (fun v1 w1 h1 h2 h3 _ => h v1 w1 h1 h2 h3)
theorem specOk_ok (a : Int) (l : List S58) (hl : l.length ≤ 1048576) (f : Int) (k : Nat) (hk : l.length * (l.length + 5) + 2 ≤ k) : spec_SourceOk.f k a l f = some (srcM a l f) := spec_SourceOk_ok a l hl f k hk
set_option maxHeartbeats 4000000 in
set_option maxRecDepth 100000 in
theorem SpecByte_no (a f : Int) (A : Option Addr) (c : Nat) (l : List S58) (B : Option Addr) (nb cb : Nat) (at_ : Int) (w : World) (hr : Kd.C k58 w A l.length l) (hc : l.length ≤ c) (hl : l.length ≤ 1048576) (ho : byOk a l f at_ = false) :
    Calls Try.prog 21 #[.agg #[.int .i64 a, .slice A l.length c, .int .i64 f], .slice B nb cb, .int .i64 at_] w fun e w' => e = .returned (.tuple #[.agg #[.int .i64 0, .slice none 0 0, .int .i64 0], .int .i64 (-1)]) ∧ Below w.heap.size w w' := by
  have hu := Try.underlying24
  have q1 := specOk_ok a l hl f (l.length * (l.length + 5) + 2) (Nat.le_refl _)
  have HC := Aside0.mk hc
  have HB := Aside0.mk (below_alloc (below_alloc (Below.refl w.heap.size w) (.cells #[.int .i64 a, .slice A l.length c, .int .i64 f] 24)) zSrc)
  have HR := Aside0.mk (Kd.C_below hr HB.out)
  have HZ := Aside0.mk (heap_alloc_new (w.alloc (.cells #[.int .i64 a, .slice A l.length c, .int .i64 f] 24)) zSrc)
  have HG := Aside0.mk (show w.heap.size ≤ (w.alloc (.cells #[.int .i64 a, .slice A l.length c, .int .i64 f] 24)).heap.size from by rw [World.size_alloc]; omega)
  have hs := World.size_alloc w (.cells #[.int .i64 a, .slice A l.length c, .int .i64 f] 24)
  have e0 : ((w.alloc (.cells #[.int .i64 a, .slice A l.length c, .int .i64 f] 24)).alloc zSrc).heap[w.heap.size]? = some (.cells #[.int .i64 a, .slice A l.length c, .int .i64 f] 24 (0, 0)) := blk_alloc (heap_alloc_new w _) _
  clear hr hc hl
  unfold byOk at ho
  go_enter Try.func21, Try.ntmps21
  go_upto_region 1 with fail
  rw [hs] at HZ HG
  change Code.wp _ _ _ _ ((w.alloc (.cells #[.int .i64 a, .slice A l.length c, .int .i64 f] 24)).alloc zSrc)
  generalize (w.alloc (.cells #[.int .i64 a, .slice A l.length c, .int .i64 f] 24)).alloc zSrc = W0 at HB HR HZ e0 ⊢
  have c0 := (blk_cell e0 0).trans rfl
  have c1 := (blk_cell e0 1).trans rfl
  have c2 := (blk_cell e0 2).trans rfl
  generalize w.heap.size + 1 = g2 at HZ HG ⊢
  clear e0 hs
  by_cases hs : srcM a l f = true
  · rw [hs] at q1 ho
    rw [Bool.true_and] at ho
    by_cases h1 : at_ < 0
    · have b1 : decide (at_ < 0) = true := decide_eq_true h1
      go_wp2_with (go_at_call 19; (with_reducible refine (spec_SourceOk.calls (l.length * (l.length + 5) + 2) a A c l f true _ HR.out HC.out q1).mono ?_); rintro e w' ⟨rfl, hb⟩; have HZ1 := Aside0.mk ((hb.block _ (blk_lt HZ.out)).trans HZ.out); have z0 := (blk_cell HZ1.out 0).trans rfl; have z1 := (blk_cell HZ1.out 1).trans rfl; have z2 := (blk_cell HZ1.out 2).trans rfl; have f0 := blk_frozen HZ1.out 0; have f1 := blk_frozen HZ1.out 1; have f2 := blk_frozen HZ1.out 2; have HB1 := Aside0.mk (below_step HB.out hb); clear hb)
      refine bodyPost_ret (results_ct rfl _ _ g2 24 #[.int .i64 0, .slice none 0 0, .int .i64 0] (0, 0) _ rfl (by refine blk_put (cs := #[.int .i64 0, .slice none 0 0, .int .i64 0]) ?_ 2 _ rfl; refine blk_put (cs := #[.int .i64 0, .slice none 0 0, .int .i64 0]) ?_ 1 _ rfl; refine blk_put (cs := #[.int .i64 0, .slice none 0 0, .int .i64 0]) ?_ 0 _ rfl; exact HZ1.out) Try.underlying24 rfl (by kernel_rfl)) rfl ?_
      exact ⟨rfl, below_set (below_set (below_set HB1.out HG.out) HG.out) HG.out⟩
    · have b1 : decide (at_ < 0) = false := decide_eq_false h1
      have b2 : decide (60000 < at_) = true := by
        rw [decide_eq_false_iff_not] at ho
        exact decide_eq_true (by omega)
      go_wp2_with (go_at_call 19; (with_reducible refine (spec_SourceOk.calls (l.length * (l.length + 5) + 2) a A c l f true _ HR.out HC.out q1).mono ?_); rintro e w' ⟨rfl, hb⟩; have HZ1 := Aside0.mk ((hb.block _ (blk_lt HZ.out)).trans HZ.out); have z0 := (blk_cell HZ1.out 0).trans rfl; have z1 := (blk_cell HZ1.out 1).trans rfl; have z2 := (blk_cell HZ1.out 2).trans rfl; have f0 := blk_frozen HZ1.out 0; have f1 := blk_frozen HZ1.out 1; have f2 := blk_frozen HZ1.out 2; have HB1 := Aside0.mk (below_step HB.out hb); clear hb)
      refine bodyPost_ret (results_ct rfl _ _ g2 24 #[.int .i64 0, .slice none 0 0, .int .i64 0] (0, 0) _ rfl (by refine blk_put (cs := #[.int .i64 0, .slice none 0 0, .int .i64 0]) ?_ 2 _ rfl; refine blk_put (cs := #[.int .i64 0, .slice none 0 0, .int .i64 0]) ?_ 1 _ rfl; refine blk_put (cs := #[.int .i64 0, .slice none 0 0, .int .i64 0]) ?_ 0 _ rfl; exact HZ1.out) Try.underlying24 rfl (by kernel_rfl)) rfl ?_
      exact ⟨rfl, below_set (below_set (below_set HB1.out HG.out) HG.out) HG.out⟩
  · have hs' : srcM a l f = false := by simpa using hs
    rw [hs'] at q1
    go_wp2_with (go_at_call 19; (with_reducible refine (spec_SourceOk.calls (l.length * (l.length + 5) + 2) a A c l f false _ HR.out HC.out q1).mono ?_); rintro e w' ⟨rfl, hb⟩; have HZ1 := Aside0.mk ((hb.block _ (blk_lt HZ.out)).trans HZ.out); have z0 := (blk_cell HZ1.out 0).trans rfl; have z1 := (blk_cell HZ1.out 1).trans rfl; have z2 := (blk_cell HZ1.out 2).trans rfl; have f0 := blk_frozen HZ1.out 0; have f1 := blk_frozen HZ1.out 1; have f2 := blk_frozen HZ1.out 2; have HB1 := Aside0.mk (below_step HB.out hb); clear hb)
    refine bodyPost_ret (results_ct rfl _ _ g2 24 #[.int .i64 0, .slice none 0 0, .int .i64 0] (0, 0) _ rfl (by refine blk_put (cs := #[.int .i64 0, .slice none 0 0, .int .i64 0]) ?_ 2 _ rfl; refine blk_put (cs := #[.int .i64 0, .slice none 0 0, .int .i64 0]) ?_ 1 _ rfl; refine blk_put (cs := #[.int .i64 0, .slice none 0 0, .int .i64 0]) ?_ 0 _ rfl; exact HZ1.out) Try.underlying24 rfl (by kernel_rfl)) rfl ?_
    exact ⟨rfl, below_set (below_set (below_set HB1.out HG.out) HG.out) HG.out⟩
set_option maxHeartbeats 4000000 in
set_option maxRecDepth 100000 in
theorem SpecByte_yes (a f : Int) (A : Option Addr) (c : Nat) (l : List S58) (B : Option Addr) (cb : Nat) (b : List Int) (at_ : Int) (w : World) (hr : Kd.C k58 w A l.length l) (hc : l.length ≤ c) (hd : ∀ x ∈ l, x.f1.length ≤ 1048576) (hB : Kd.C (Kd.int .u8) w B b.length b) (hcb : b.length ≤ cb) (hb : b.length ≤ 1048576) (ho : byOk a l f at_ = true) :
    Calls Try.prog 21 #[.agg #[.int .i64 a, .slice A l.length c, .int .i64 f], .slice B b.length cb, .int .i64 at_] w fun e w' => ∃ v, e = .returned (.tuple #[.agg #[.int .i64 a, v, .int .i64 (bzF a l f at_)], .int .i64 (bzX a (bzL a l b at_) at_)]) ∧ Kd.Q k58 58 w' w.heap.size (fun _ => True) v (bzL a l b at_) ∧ Below w.heap.size w w' := by
  have hu := Try.underlying24
  have hup := Try.underlying58
  unfold byOk at ho
  rw [Bool.and_eq_true, decide_eq_true_eq] at ho
  obtain ⟨hs, hat⟩ := ho
  have b1 : decide (at_ < 0) = false := decide_eq_false (by omega)
  have b2 : decide (60000 < at_) = false := decide_eq_false (by omega)
  have hall : pgAll a l l.length 0 = true := by
    have hs2 := hs
    unfold srcM at hs2
    rw [Bool.and_eq_true] at hs2
    exact hs2.1
  have hsf := srcM_facts hs
  have q1 := specOk_ok a l (by omega) f (l.length * (l.length + 5) + 2) (Nat.le_refl _)
  rw [hs] at q1
  have HC := Aside0.mk hc
  have HT := Aside0.mk (And.intro hsf hat)
  have HD := Aside0.mk (show ∀ x ∈ l, x.f1.length ≤ 1000000000000 from fun x hx => Nat.le_trans (hd x hx) (by decide))
  have HCB := Aside0.mk hcb
  have HBo := Aside0.mk hB
  have HLB := Aside0.mk hb
  have HB := Aside0.mk (below_alloc (below_alloc (Below.refl w.heap.size w) (.cells #[.int .i64 a, .slice A l.length c, .int .i64 f] 24)) zSrc)
  have HR := Aside0.mk (Kd.C_below hr HB.out)
  have HBB := Aside0.mk (Kd.C_below hB HB.out)
  have HZ := Aside0.mk (heap_alloc_new (w.alloc (.cells #[.int .i64 a, .slice A l.length c, .int .i64 f] 24)) zSrc)
  have HG := Aside0.mk (show w.heap.size ≤ (w.alloc (.cells #[.int .i64 a, .slice A l.length c, .int .i64 f] 24)).heap.size from by rw [World.size_alloc]; omega)
  have hs1 := World.size_alloc w (.cells #[.int .i64 a, .slice A l.length c, .int .i64 f] 24)
  have e0 : ((w.alloc (.cells #[.int .i64 a, .slice A l.length c, .int .i64 f] 24)).alloc zSrc).heap[w.heap.size]? = some (.cells #[.int .i64 a, .slice A l.length c, .int .i64 f] 24 (0, 0)) := blk_alloc (heap_alloc_new w _) _
  have a1 : 1 ≤ a := hsf.1
  have a2 : a ≤ 60000 := hsf.2.1
  have t1 : 0 ≤ at_ := hat.1
  have t2 : at_ ≤ 60000 := hat.2
  have a0 : (a == 0) = false := by rw [beq_eq_false_iff_ne]; omega
  have a3 : ¬ (a = 0) := by omega
  have HAL := Aside0.mk hall
  have HRo := Aside0.mk hr
  clear hr hc hd hB hcb hb hs hat hsf hall
  go_enter Try.func21, Try.ntmps21
  go_upto_region 1 with fail
  rw [hs1] at HZ HG
  change Code.wp _ _ _ _ ((w.alloc (.cells #[.int .i64 a, .slice A l.length c, .int .i64 f] 24)).alloc zSrc)
  generalize (w.alloc (.cells #[.int .i64 a, .slice A l.length c, .int .i64 f] 24)).alloc zSrc = W0 at HB HR HBB HZ e0 ⊢
  have HE := Aside0.mk e0
  have c0 := (blk_cell e0 0).trans rfl
  have c1 := (blk_cell e0 1).trans rfl
  have c2 := (blk_cell e0 2).trans rfl
  have HNW0 := Aside0.mk (show w.heap.size ≠ w.heap.size + 1 by omega)
  generalize w.heap.size + 1 = g2 at HZ HG HNW0 ⊢
  clear e0 hs1
  go_upto_region 3 with (go_at_call 19; (with_reducible refine (spec_SourceOk.calls (l.length * (l.length + 5) + 2) a A c l f true _ HR.out HC.out q1).mono ?_); rintro e w' ⟨rfl, hb⟩; have HW := Aside0.mk hb; clear hb)
  have HW1 := HW
  have HB1 := Aside0.mk (below_step HB.out HW1.out)
  have HR1 := Aside0.mk (Kd.C_below HR.out HW1.out)
  have HBB1 := Aside0.mk (Kd.C_below HBB.out HW1.out)
  have HZ1 := Aside0.mk ((HW1.out.block _ (blk_lt HZ.out)).trans HZ.out)
  have HE1 := Aside0.mk ((HW1.out.block _ (blk_lt HE.out)).trans HE.out)
  clear HB HR HBB HZ HE HW HW1 c0 c1 c2
  generalize w' = W1 at HB1 HR1 HBB1 HZ1 HE1 ⊢
  have c0 := (blk_cell HE1.out 0).trans rfl
  have c1 := (blk_cell HE1.out 1).trans rfl
  have c2 := (blk_cell HE1.out 2).trans rfl
  go_upto_region 4 with fail
  have HBo1 := Aside0.mk (show Below W1.heap.size W1 (W1.alloc (.cells #[.int .i64 a, .slice none 0 0, .int .i64 f] 24)) from below_alloc (Below.refl _ _) _)
  have HB2 := Aside0.mk (below_step HB1.out HBo1.out)
  have HE2 := Aside0.mk ((HBo1.out.block _ (blk_lt HE1.out)).trans HE1.out)
  have HZ2 := Aside0.mk ((HBo1.out.block _ (blk_lt HZ1.out)).trans HZ1.out)
  have H82 := Aside0.mk (heap_alloc_new W1 (.cells #[.int .i64 a, .slice none 0 0, .int .i64 f] 24))
  have HN2 := Aside0.mk (show w.heap.size ≤ W1.heap.size ∧ g2 < W1.heap.size ∧ w.heap.size < W1.heap.size from ⟨HB1.out.size, blk_lt HZ1.out, blk_lt HE1.out⟩)
  clear HB1 HR1 HBB1 HZ1 HE1 HBo1 c0 c1 c2
  generalize W1.alloc (.cells #[.int .i64 a, .slice none 0 0, .int .i64 f] 24) = W2 at HB2 HE2 HZ2 H82 ⊢
  generalize W1.heap.size = g8 at H82 HN2 ⊢
  have c0 := (blk_cell HE2.out 0).trans rfl
  have c1 := (blk_cell HE2.out 1).trans rfl
  have c2 := (blk_cell HE2.out 2).trans rfl
  go_upto_region 5 with fail
  have HBo1 := Aside0.mk (show Below W2.heap.size W2 (W2.alloc (.cells #[.int .i64 (at_ / a), .slice none 0 0] 58)) from below_alloc (Below.refl _ _) _)
  have HB := Aside0.mk (below_step HB2.out HBo1.out)
  have HE := Aside0.mk ((HBo1.out.block _ (blk_lt HE2.out)).trans HE2.out)
  have HZ := Aside0.mk ((HBo1.out.block _ (blk_lt HZ2.out)).trans HZ2.out)
  have H8 := Aside0.mk ((HBo1.out.block _ (blk_lt H82.out)).trans H82.out)
  have H9 := Aside0.mk (heap_alloc_new W2 (.cells #[.int .i64 (at_ / a), .slice none 0 0] 58))
  have HN := Aside0.mk (show w.heap.size ≤ g8 ∧ g2 < W2.heap.size ∧ g8 < W2.heap.size ∧ w.heap.size < W2.heap.size ∧ g2 ≠ g8 ∧ w.heap.size ≠ g8 from ⟨HN2.out.1, by have := blk_lt HZ2.out; omega, blk_lt H82.out, blk_lt HE2.out, by have := HN2.out; omega, by have := HN2.out; omega⟩)
  clear HB2 HE2 HZ2 H82 HN2 HBo1 c0 c1 c2
  generalize W2.alloc (.cells #[.int .i64 (at_ / a), .slice none 0 0] 58) = W3 at HB HE HZ H8 H9 ⊢
  generalize W2.heap.size = g9 at H9 HN ⊢
  obtain ⟨num, hnum⟩ : ∃ num, at_ / a = num := ⟨_, rfl⟩
  rw [hnum] at H9 ⊢
  have HNUM := Aside0.mk hnum
  have HN8 := Aside0.mk (show g8 ≠ g9 by have := HN.out; omega)
  have HN9 := Aside0.mk (show g2 ≠ g9 ∧ w.heap.size ≠ g9 ∧ w.heap.size ≤ g9 ∧ g2 ≠ g8 ∧ w.heap.size ≠ g8 by have := HN.out; omega)
  obtain ⟨K, hK1, hK2, hK3⟩ : ∃ K : Nat, (∀ i (h : i < l.length), i ≠ K → l[i].f0 ≠ num) ∧ (∀ h : K < l.length, l[K].f0 = num) ∧ ((K < l.length ∧ pgAt num l 0 = K) ∨ (K = l.length ∧ pgAt num l 0 = -1)) := by
    rcases pgAt_nn num l 0 (Int.le_refl _) with hno | hyes
    · exact ⟨l.length, fun i h _ => pgAt_no num l 0 hno i (Nat.zero_le _) h, fun h => by omega, .inr ⟨rfl, hno⟩⟩
    · obtain ⟨K, hK⟩ : ∃ K : Nat, pgAt num l 0 = K := ⟨(pgAt num l 0).toNat, by omega⟩
      obtain ⟨_, hKl, hk2, hk3⟩ := pgAt_yes num l K 0 (by rw [List.drop_zero]; exact hK)
      refine ⟨K, fun i h hne => ?_, fun _ => hk2, .inl ⟨hKl, hK⟩⟩
      rcases Nat.lt_or_gt_of_ne hne with h3 | h3
      · exact hk3 i (Nat.zero_le _) h3
      · have := pg_apart a l HAL.out K i h3 h
        rw [hk2] at this
        exact fun he => this he.symm
  have HK := Aside0.mk (And.intro hK1 (And.intro hK2 hK3))
  clear hK1 hK2 hK3 hnum HAL
  have HQ := Aside0.mk (show SQt w.heap.size (fun k => k ≠ g9 ∧ k ≠ g2) W3 g8 a (LLp l K 0) f from ⟨none, 0, by rw [show LLp l K 0 = [] from by unfold LLp; rw [if_neg (by omega)]; rfl]; exact H8.out, by rw [show LLp l K 0 = [] from by unfold LLp; rw [if_neg (by omega)]; rfl]; exact Kd.Q_nil _ _ _ _ _⟩)
  have HV := Aside0.mk (show Kd.R (Kd.int .u8) 5 W3 w.heap.size (fun _ => True) (.slice none 0 0) (DDp l K 0) from by rw [show DDp l K 0 = [] from by unfold DDp; rw [if_neg (by omega)]]; exact Kd.R_nil _ _ _ _ _)
  have c0 := (blk_cell HE.out 0).trans rfl
  have c1 := (blk_cell HE.out 1).trans rfl
  have c2 := (blk_cell HE.out 2).trans rfl
  go_upto_block 0 with fail
  go_wp2
  clear c0 c1 c2
  go_loopg [10, 38] l.length (fun kq v10 v38 wr => ∃ (i : Nat) (A9 : Option Addr) (c9 : Nat), v10 = .bool (decide (K < i)) ∧ v38 = .int .i64 (i : Int) ∧ Aside0 (i + kq = l.length) ∧ Aside0 (SQt w.heap.size (fun k => k ≠ g9 ∧ k ≠ g2) wr g8 a (LLp l K i) f) ∧ Aside0 (wr.heap[g9]? = some (.cells #[.int .i64 num, .slice A9 (DDp l K i).length c9] 58 (0, 0))) ∧ Aside0 (Kd.R (Kd.int .u8) 5 wr w.heap.size (fun _ => True) (.slice A9 (DDp l K i).length c9) (DDp l K i)) ∧ Aside0 (wr.heap[g2]? = some zSrc) ∧ Aside0 (wr.heap[w.heap.size]? = some (.cells #[.int .i64 a, .slice A l.length c, .int .i64 f] 24 (0, 0))) ∧ Aside0 (Below w.heap.size w wr))
  case atStart =>
    have e0 : DDp l K 0 = [] := by unfold DDp; rw [if_neg (by omega)]
    refine ⟨0, none, 0, by simp, rfl, ⟨by omega⟩, HQ, ⟨by rw [e0]; exact H9.out⟩, ⟨by rw [e0]; rw [e0] at HV; exact HV.out⟩, HZ, HE, HB⟩
  case round =>
    clear HQ H9 HV HZ HE HB H8
    obtain ⟨i, A9, c9, rfl, rfl, HI, HQ, H9, HV, HZ, HE, HB⟩ := hrel
    have HLi := Aside0.mk (LLp_len l K i)
    obtain ⟨dd, hdd⟩ : ∃ dd, DDp l K i = dd := ⟨_, rfl⟩
    obtain ⟨li, hli⟩ : ∃ li, LLp l K i = li := ⟨_, rfl⟩
    rw [hdd] at H9 HV
    rw [hli] at HQ HLi
    have HDD := Aside0.mk (And.intro hdd hli)
    clear hdd hli
    obtain ⟨gk_1, hgk⟩ : ∃ q, l.length - (i + 1) = q := ⟨_, rfl⟩
    have HK1 := Aside0.mk hgk
    clear hgk
    by_cases ci : i < l.length
    · have q3 : ((i : Int) < (l.length : Int)) = True := eq_true (by omega)
      have p1 : (0 ≤ (i : Int)) = True := eq_true (by omega)
      have hw : wrap64 ((i : Int) + 1) = ((i + 1 : Nat) : Int) := by have := HT.out.1.2.2.1; unfold wrap64; omega
      obtain ⟨ad, A1, c1, hA, h0, h1, h2, h3⟩ := at_T58 (Kd.C_below HRo.out HB.out) (i : Int) (by omega) (by omega)
      rw [rd_at_P ci] at h0 h1 h2 h3
      subst hA
      rw [Int.toNat_natCast] at h0 h1
      have HLx := Aside0.mk (HD.out _ (List.getElem_mem ci))
      have HC := Aside0.mk h3
      clear h2 h3
      have HX := Aside0.mk (And.intro (HK.out.1 i ci) (And.intro (LLp_other l K i ci) (show i = K → DDp l K (i + 1) = l[i].f1 from fun he => by subst he; unfold DDp; rw [if_pos (by omega), rd_at_P ci])))
      have HXn := Aside0.mk (show i = K → l[i].f0 = num from fun he => by subst he; exact HK.out.2.1 ci)
      generalize l[i] = x at h0 h1 HLx HC HX HXn
      go_upto_region 9 with fail
      have HBo1 := Aside0.mk (show Below wr.heap.size wr (wr.alloc (.cells #[.int .i64 x.f0, .slice A1 x.f1.length c1] 58)) from below_alloc (Below.refl _ _) _)
      have HP5 := Aside0.mk (heap_alloc_new wr (.cells #[.int .i64 x.f0, .slice A1 x.f1.length c1] 58))
      have HQ5 := Aside0.mk (HQ.out.below HBo1.out)
      have H95 := Aside0.mk ((HBo1.out.block _ (blk_lt H9.out)).trans H9.out)
      have HV5 := Aside0.mk (Kd.R_below HV.out HBo1.out)
      have HZ5 := Aside0.mk ((HBo1.out.block _ (blk_lt HZ.out)).trans HZ.out)
      have HE5 := Aside0.mk ((HBo1.out.block _ (blk_lt HE.out)).trans HE.out)
      have HB5 := Aside0.mk (HB.out.trans (HBo1.out.mono HB.out.size))
      have HC5 := Aside0.mk (Kd.C_below HC.out HBo1.out)
      clear HQ H9 HV HZ HE HB HC HBo1 h0 h1
      generalize wr.alloc (.cells #[.int .i64 x.f0, .slice A1 x.f1.length c1] 58) = w5 at HP5 HQ5 H95 HV5 HZ5 HE5 HB5 HC5 ⊢
      generalize wr.heap.size = gp at HP5 ⊢
      have x0 : w5.cell? ⟨gp, 0, none⟩ = some (.int .i64 x.f0) := (blk_cell HP5.out 0).trans rfl
      have x1 : w5.cell? ⟨gp, 1, none⟩ = some (.slice A1 x.f1.length c1) := (blk_cell HP5.out 1).trans rfl
      have y0 : w5.cell? ⟨g9, 0, none⟩ = some (.int .i64 num) := (blk_cell H95.out 0).trans rfl
      have hgt := And.intro (blk_lt H95.out) (And.intro (blk_lt HZ5.out) (HQ5.out.lt))
      have HGT := Aside0.mk hgt
      clear hgt
      by_cases he : i = K
      · have b5 : (x.f0 == num) = true := by rw [beq_iff_eq]; exact HXn.out he
        have HEQ := Aside0.mk he
        clear he
        have f9 := blk_frozen H95.out 1
        have e2 := pw_cell_below (below_alloc (Below.refl w5.heap.size w5) (.cells #[] 5)) x1
        have y1 : w5.cell? ⟨g9, 1, none⟩ = some (.slice A9 dd.length c9) := (blk_cell H95.out 1).trans rfl
        go_wp2_with (first | ((with_reducible refine gate_builtin (b := .append) (xs := #[.tmp 47, .tmp 49]) rfl ?_); at_builtin; refine Kd.R_append_rows (Kd.int .u8) (w0 := w5) (W := w5.alloc (.cells #[] 5)) w5.heap.size rfl (.tmp 47) (.tmp 49) 30 5 (.int .u8 0) 1 rfl Try.underlying30 info5 rfl (by decide) (by omega) (.slice (some ⟨w5.heap.size, 0, none⟩) 0 0) [] x.f1 A1 x.f1.length c1 (fun _ => True) (fun _ => False) rfl rfl (R_empty _ _ (Nat.le_refl _) trivial) (Kd.C_alloc HC5.out _) (fun _ _ h => h) (fun _ h => h.elim) (fun _ _ => trivial) (below_alloc (Below.refl _ _) _) (by rw [World.size_alloc]; omega) (by have := HLx.out; simp only [List.length_nil]; omega) ?_; intro v6 w6 hr6 hb6 hg6 _; rw [List.nil_append] at hr6; obtain ⟨A6, c6, e6⟩ := Kd.R_slice hr6; subst e6; have HR6 := Aside0.mk hr6; have HB6 := Aside0.mk hb6; have H96 := Aside0.mk ((hb6.block _ (blk_lt H95.out)).trans H95.out); have f96 := blk_frozen H96.out 1; have y61 : w6.cell? ⟨g9, 1, none⟩ = some (.slice A9 dd.length c9) := (blk_cell H96.out 1).trans rfl; clear hr6 hb6 hg6))
        go_roundg gk_1
        case measure => (have := HK1.out; have := HI.out; omega)
        case rel =>
          have he := HEQ.out
          have hD := HX.out.2.2 he
          have hL : LLp l K (i + 1) = li := by rw [← HDD.out.2]; subst he; exact LLp_it l i ci
          refine ⟨i + 1, A6, c6, by rw [decide_eq_true (show K < i + 1 by omega)], (by first | rfl | (simp only [hw]) | (simp; done)), ⟨by have := HI.out; have := HK1.out; omega⟩, ⟨?_⟩, ⟨?_⟩, ⟨?_⟩, ⟨?_⟩, ⟨?_⟩, ⟨?_⟩⟩
          · rw [hL]
            exact (HQ5.out.below HB6.out).step (fun k hk _ => Below.heap_setCell _ _ _ _ (by rcases hk with hk | hk; exact hk.1; rw [hk]; exact HN8.out))
          · rw [hD]
            exact blk_set H96.out 1 _
          · rw [hD]
            exact Kd.R_set (Kd.R_lower HR6.out HB5.out.size) H96.out (by decide) 1 _
          · exact (Below.heap_setCell _ _ _ _ HN9.out.1).trans ((HB6.out.block _ (blk_lt HZ5.out)).trans HZ5.out)
          · exact (Below.heap_setCell _ _ _ _ HN9.out.2.1).trans ((HB6.out.block _ (blk_lt HE5.out)).trans HE5.out)
          · exact (HB5.out.trans (HB6.out.mono HB5.out.size)).setCell HN9.out.2.2.1 _
      · have b5 : (x.f0 == num) = false := by rw [beq_eq_false_iff_ne]; exact HX.out.1 he
        go_upto_region 12 with fail
        have HEQ := Aside0.mk he
        clear he
        obtain ⟨A2, c2, hb, _, k1, _, kf, hS⟩ := HQ5.out.cells
        have HSo := Aside0.mk hS
        have Hb := Aside0.mk hb
        clear hb kf hS
        have e0 := pw_cell_below (below_alloc (Below.refl w5.heap.size w5) (.cells #[] 5)) k1
        have e1 := pw_cell_below (below_alloc (Below.refl w5.heap.size w5) (.cells #[] 5)) x0
        have e2 := pw_cell_below (below_alloc (Below.refl w5.heap.size w5) (.cells #[] 5)) x1
        go_region_law (first | fail | (refine bytes_append (w0 := w) (W := w5.drew) w.heap.size rfl (.tmp 56) (.tmp 58) x.f1 A1 c1 rfl rfl rfl (Kd.C_drew HC5.out) HLx.out HB5.out.drew HB5.out.size ?_; intro v6 w6 hr6 hb6; obtain ⟨A6, c6, e6⟩ := Kd.R_slice hr6; subst e6; have HR6 := Aside0.mk hr6; have HB6 := Aside0.mk (show Below w5.heap.size w5 w6 from below_step (show Below w5.heap.size w5 w5.drew from below_drew (Below.refl _ _)) hb6); have m1 := pw_cell_below HB6.out k1; have m2 := pw_cell_below HB6.out x0; have m3 := pw_cell_below HB6.out x1; have m4 := pw_cell_below (below_alloc (Below.refl w6.heap.size w6) (.cells #[.int .i64 x.f0, .slice A6 x.f1.length c6] 58)) m1; clear hr6 hb6) | (refine page_appendQ (w0 := w) (W := w6) w.heap.size (fun k => k ≠ g9 ∧ k ≠ g2) (fun k => w5.heap.size ≤ k) rfl (.tmp 53) (.tmp 61) (.slice A2 li.length c2) (.slice A6 x.f1.length c6) li x rfl rfl rfl rfl (Kd.R_lower (Kd.R_mono (Kd.R_bound HR6.out) (fun k hk => hk.2.1)) HB5.out.size) (Kd.Q_below HSo.out HB6.out) (fun k hk => ⟨⟨fun h => by have := HGT.out.1; omega, fun h => by have := HGT.out.2.1; omega⟩, fun h => Nat.not_le.2 (Kd.Q_lt HSo.out k h.symm) hk⟩) (fun k hk => ⟨fun h => by have := HGT.out.1; have := HB6.out.size; omega, fun h => by have := HGT.out.2.1; have := HB6.out.size; omega⟩) (HB5.out.trans (HB6.out.mono HB5.out.size)) (Nat.le_trans HB5.out.size HB6.out.size) (by have := HLi.out; have := HT.out.1.2.2.1; omega) ?_; intro v1 w1 hr1 hb1 hg1; obtain ⟨n0, n1, n2, nf, nS⟩ := SQt.grown ((HB6.out.block _ (blk_lt Hb.out)).trans Hb.out) hr1 hg1 (Kd.Q_ne HSo.out Hb.out (by decide)); have z1 := nf 1; obtain ⟨A7, c7, e7, _⟩ := Kd.Q_slice hr1; subst e7; have HS1 := Aside0.mk nS; have HB1 := Aside0.mk hb1; have HG1 := Aside0.mk hg1; clear hr1 hb1 hg1 nS nf n0 n2))
        all_goals (go_wp2; go_roundg gk_1; (case measure => (have := HK1.out; have := HI.out; omega)); (case rel => (
          have he := HEQ.out
          have hD : DDp l K (i + 1) = dd := by rw [← HDD.out.1]; unfold DDp; by_cases hk : K < i; rw [if_pos hk, if_pos (by omega)]; rw [if_neg hk, if_neg (by omega)]
          have h96 := blk_grown ((HB6.out.block _ (blk_lt H95.out)).trans H95.out) HG1.out (Kd.Q_away HSo.out (fun _ h => h.1))
          refine ⟨i + 1, A9, c9, by rw [show decide (K < i + 1) = decide (K < i) from by rw [decide_eq_decide]; omega], (by first | rfl | (simp only [hw]) | (simp; done)), ⟨by have := HI.out; have := HK1.out; omega⟩, ⟨?_⟩, ⟨?_⟩, ⟨?_⟩, ⟨?_⟩, ⟨?_⟩, ⟨?_⟩⟩
          · rw [HX.out.2.1 HEQ.out, HDD.out.2]
            have hh := HS1.out
            rw [show (li ++ [x]).length = li.length + 1 from by rw [List.length_append, List.length_singleton]] at hh
            exact hh
          · rw [hD]
            exact (Below.heap_setCell _ _ _ _ (Ne.symm HN8.out)).trans h96
          · rw [hD]
            have hh := Kd.R_over' (Kd.R_below HV5.out HB6.out) (Kd.Q_typed (Kd.Q_below HSo.out HB6.out)) (by decide) HG1.out
            exact Kd.R_set hh (blk_grown ((HB6.out.block _ (blk_lt Hb.out)).trans Hb.out) HG1.out (Kd.Q_ne HSo.out Hb.out (by decide))) (by decide) 1 _
          · exact (Below.heap_setCell _ _ _ _ HN9.out.2.2.2.1).trans ((HG1.out.block g2 (blk_lt ((HB6.out.block _ (blk_lt HZ5.out)).trans HZ5.out)) (Kd.Q_ne HSo.out HZ5.out (by decide))).trans ((HB6.out.block _ (blk_lt HZ5.out)).trans HZ5.out))
          · exact (Below.heap_setCell _ _ _ _ HN9.out.2.2.2.2).trans ((HG1.out.block _ (blk_lt ((HB6.out.block _ (blk_lt HE5.out)).trans HE5.out)) (Kd.Q_ne HSo.out HE5.out (by decide))).trans ((HB6.out.block _ (blk_lt HE5.out)).trans HE5.out))
          · exact HB1.out.setCell HN.out.1 _)))
    · have hi : i = l.length := by have := HI.out; omega
      have q3 : ((i : Int) < (l.length : Int)) = False := eq_false (by omega)
      obtain ⟨q, hq⟩ : ∃ q : Bool, decide (K < l.length) = q := ⟨_, rfl⟩
      have HKK := HK
      rw [hi] at HDD ⊢
      rw [hq]
      have HQQ := Aside0.mk hq
      clear hq hi q3
      have c0 := (blk_cell HE.out 0).trans rfl
      have y0 : wr.cell? ⟨g9, 0, none⟩ = some (.int .i64 num) := (blk_cell H9.out 0).trans rfl
      have f9 := blk_frozen H9.out 1
      go_upto_if 66 with fail
      go_cut [] (fun wc => ∃ (A9 : Option Addr) (c9 : Nat) (d2 : List Int) (L2 : List S58) (f2 : Int), Aside0 (SQt w.heap.size (fun k => k ≠ g9 ∧ k ≠ g2) wc g8 a L2 f2) ∧ Aside0 (wc.heap[g9]? = some (.cells #[.int .i64 num, .slice A9 d2.length c9] 58 (0, 0))) ∧ Aside0 (Kd.R (Kd.int .u8) 5 wc w.heap.size (fun _ => True) (.slice A9 d2.length c9) d2) ∧ Aside0 (wc.heap[g2]? = some zSrc) ∧ Aside0 (wc.heap[w.heap.size]? = some (.cells #[.int .i64 a, .slice A l.length c, .int .i64 f] 24 (0, 0))) ∧ Aside0 (Below w.heap.size w wc) ∧ Aside0 (L2 ++ [(⟨num, d2⟩ : S58)] = bzL a l b at_ ∧ f2 = bzF a l f at_ ∧ L2.length ≤ 6))
      case first =>
        rcases HKK.out.2.2 with ⟨hKl, hpg⟩ | ⟨hKl, hpg⟩
        · have hqt : q = true := by rw [← HQQ.out]; exact decide_eq_true hKl
          have HF := Aside0.mk (show li ++ [(⟨num, dd⟩ : S58)] = bzL a l b at_ ∧ f = bzF a l f at_ ∧ li.length ≤ 6 from by
            refine ⟨?_, ?_, by have := HLi.out; have := HT.out.1.2.2.1; omega⟩
            · unfold bzL
              rw [HNUM.out, if_pos (by omega), hpg, Int.toNat_natCast, rd_at_P hKl, ← HDD.out.1, ← HDD.out.2]
              unfold DDp LLp
              rw [if_pos hKl, if_pos hKl, List.take_length, rd_at_P hKl, ← HKK.out.2.1 hKl]
            · unfold bzF
              rw [HNUM.out, if_pos (by omega)])
          subst hqt
          go_wp2
          go_meet
          case rel => exact ⟨A9, c9, dd, li, f, HQ, H9, HV, HZ, HE, HB, HF⟩
        · have hqt : q = false := by rw [← HQQ.out]; exact decide_eq_false (by omega)
          subst hqt
          have hm0 : 0 ≤ num * a := by rw [← HNUM.out]; exact Int.mul_nonneg (Int.ediv_nonneg t1 (by omega)) (by omega)
          have hm1 : num * a ≤ at_ := by rw [← HNUM.out]; exact Int.ediv_mul_le _ a3
          have hw1 : wrap64 (num * a) = num * a := by unfold wrap64; omega
          have hw2 : IntKind.i64.wrap (num * a) = num * a := IntWalk.i64_in _ (by omega)
          have hli : li = l := by rw [← HDD.out.2]; unfold LLp; rw [if_neg (by omega), List.take_length]
          rw [hli] at HQ HLi
          have HPF := Aside0.mk (part_f a num b HLB.out hm0 (by omega) a1 a2)
          have HCw := Aside0.mk (Kd.C_below HBo.out HB.out)
          have HL6 := Aside0.mk (show l.length ≤ 6 from HT.out.1.2.2.1)
          have HPG := Aside0.mk (And.intro hpg HNUM.out)
          clear hli HDD hm0 hm1 HV
          go_upto_region 16 with (go_at_call 39; (with_reducible refine (spec_l02Part.calls 100000 B cb b (num * a) a (bzPart a b num) _ HCw.out HCB.out HPF.out).mono ?_); rintro e w6 ⟨v6, rfl, hR6, hb6⟩; obtain ⟨A6, c6, e6⟩ := Kd.R_slice hR6; subst e6; have HR6 := Aside0.mk (Kd.R_lower hR6 HB.out.size); have HB6 := Aside0.mk (HB.out.trans (hb6.mono HB.out.size)); have HQ6 := Aside0.mk (HQ.out.below hb6); have HZ6 := Aside0.mk ((hb6.block _ (blk_lt HZ.out)).trans HZ.out); have HE6 := Aside0.mk ((hb6.block _ (blk_lt HE.out)).trans HE.out); have H96 := Aside0.mk ((hb6.block _ (blk_lt H9.out)).trans H9.out); have f96 := blk_frozen H96.out 1; have y61 : w6.cell? ⟨g9, 1, none⟩ = some (.slice A9 dd.length c9) := (blk_cell H96.out 1).trans rfl; clear hR6 hb6)
          obtain ⟨part, hpart⟩ : ∃ part, bzPart a b num = part := ⟨_, rfl⟩
          rw [hpart] at HR6 ⊢
          have HPT := Aside0.mk hpart
          clear hpart HPF HCw HQ HZ HE H9 HB c0 y0 f9 f96 y61
          have HQ7 := Aside0.mk (show SQt w.heap.size (fun k => k ≠ g9 ∧ k ≠ g2) (w6.setCell ⟨g9, 1, none⟩ (.slice A6 part.length c6)) g8 a l f from HQ6.out.step (fun k hk _ => Below.heap_setCell _ _ _ _ (by rcases hk with hk | hk; exact hk.1; rw [hk]; exact HN8.out)))
          have H97 := Aside0.mk (show (w6.setCell ⟨g9, 1, none⟩ (.slice A6 part.length c6)).heap[g9]? = some (.cells #[.int .i64 num, .slice A6 part.length c6] 58 (0, 0)) from blk_set H96.out 1 _)
          have HR7 := Aside0.mk (Kd.R_set HR6.out H96.out (by decide) 1 (.slice A6 part.length c6))
          have HZ7 := Aside0.mk ((Below.heap_setCell w6 ⟨g9, 1, none⟩ (.slice A6 part.length c6) g2 HN9.out.1).trans HZ6.out)
          have HE7 := Aside0.mk ((Below.heap_setCell w6 ⟨g9, 1, none⟩ (.slice A6 part.length c6) w.heap.size HN9.out.2.1).trans HE6.out)
          have HB7 := Aside0.mk (HB6.out.setCell (p := ⟨g9, 1, none⟩) HN9.out.2.2.1 (.slice A6 part.length c6))
          clear HQ6 H96 HR6 HZ6 HE6 HB6
          generalize w6.setCell ⟨g9, 1, none⟩ (.slice A6 part.length c6) = w7 at HQ7 H97 HR7 HZ7 HE7 HB7 ⊢
          have hwf : wrap64 (f + 1) = f + 1 := by have := HT.out.1; unfold wrap64; omega
          obtain ⟨A8, c8, hb8, k0, k1, k2, kf, hQ8⟩ := HQ7.out.cells
          have g1 := kf 1
          have g2' := kf 2
          have HF := Aside0.mk (show ∀ L2 f2, (if l.length = 6 then l.drop 1 else l) = L2 → (if f < 4294967295 then f + 1 else f) = f2 → L2 ++ [(⟨num, part⟩ : S58)] = bzL a l b at_ ∧ f2 = bzF a l f at_ ∧ L2.length ≤ 6 from by
            intro L2 f2 h2 h3
            have hl6 := HL6.out
            subst h2
            subst h3
            refine ⟨?_, ?_, ?_⟩
            · unfold bzL
              rw [HNUM.out, if_neg (show ¬ 0 ≤ pgAt num l 0 by have := HPG.out.1; omega), HPT.out]
              by_cases h6 : l.length = 6
              · rw [if_pos h6, if_pos (by rw [List.length_append, List.length_singleton]; omega), erase0 _ _ (by omega)]
              · rw [if_neg h6, if_neg (by rw [List.length_append, List.length_singleton]; omega)]
            · unfold bzF
              rw [HNUM.out, if_neg (show ¬ 0 ≤ pgAt num l 0 by have := HPG.out.1; omega)]
              have := HT.out.1
              split <;> omega
            · split
              · rw [List.length_drop]; omega
              · omega)
          have HQo := Aside0.mk hQ8
          have Hb8 := Aside0.mk hb8
          clear hb8 hQ8 kf
          by_cases h6 : l.length = 6
          · have b6 : ((l.length : Int) == 6) = true := by rw [beq_iff_eq]; omega
            have b7 : (l.length == 6) = true := by rw [beq_iff_eq]; omega
            obtain ⟨gA, oA, cA, hA, _, _, _⟩ := Kd.Q_form HQo.out (by omega)
            simp only [Value.slice.injEq] at hA
            obtain ⟨rfl, _, rfl⟩ := hA
            have HQd := Aside0.mk (show Kd.Q k58 58 w7 w.heap.size (fun k => k ≠ g9 ∧ k ≠ g2) (.slice (some ⟨gA, oA + 1 * 2, none⟩) (l.length - 1) (c8 - 1)) (l.drop 1) from by
              have hh := Kd.Q_drop (k := 1) HQo.out (by omega)
              rw [if_neg (by have := (Kd.Q_reads' HQo.out).2.1; omega)] at hh
              exact hh)
            have d1 : ¬ (c8 = 1) := by have := (Kd.Q_reads' HQo.out).2.1; omega
            have d2 : 1 ≤ l.length := by omega
            have d3 : 1 ≤ c8 := by have := (Kd.Q_reads' HQo.out).2.1; omega
            have HH6 := Aside0.mk h6
            clear h6
            by_cases hf : f < 4294967295
            · have b8 : decide (f < 4294967295) = true := decide_eq_true hf
              have HF7 := Aside0.mk hf
              clear hf
              go_wp2
              go_meet
              case rel =>
                exact ⟨A6, c6, part, (l.drop 1), (f + 1), ⟨⟨some ⟨gA, oA + 1 * 2, none⟩, c8 - 1, by rw [List.length_drop]; exact blk_set (blk_set Hb8.out 2 (.int .i64 (f + 1))) 1 _, by rw [List.length_drop]; exact Kd.Q_set (Kd.Q_set HQd.out Hb8.out (by decide) 2 _) (blk_set Hb8.out 2 (.int .i64 (f + 1))) (by decide) 1 _⟩⟩, ⟨((Below.heap_setCell _ _ _ _ (Ne.symm HN8.out)).trans ((Below.heap_setCell _ _ _ _ (Ne.symm HN8.out)).trans H97.out))⟩, ⟨(Kd.R_set (Kd.R_set HR7.out Hb8.out (by decide) 2 _) (blk_set Hb8.out 2 _) (by decide) 1 _)⟩, ⟨((Below.heap_setCell _ _ _ _ HN9.out.2.2.2.1).trans ((Below.heap_setCell _ _ _ _ HN9.out.2.2.2.1).trans HZ7.out))⟩, ⟨((Below.heap_setCell _ _ _ _ HN9.out.2.2.2.2).trans ((Below.heap_setCell _ _ _ _ HN9.out.2.2.2.2).trans HE7.out))⟩, ⟨((HB7.out.setCell HN.out.1 _).setCell HN.out.1 _)⟩, ⟨HF.out _ _ (if_pos HH6.out) (if_pos HF7.out)⟩⟩
            · have b8 : decide (f < 4294967295) = false := decide_eq_false hf
              have HF7 := Aside0.mk hf
              clear hf
              go_wp2
              go_meet
              case rel =>
                exact ⟨A6, c6, part, (l.drop 1), f, ⟨⟨some ⟨gA, oA + 1 * 2, none⟩, c8 - 1, by rw [List.length_drop]; exact blk_set Hb8.out 1 _, by rw [List.length_drop]; exact Kd.Q_set HQd.out Hb8.out (by decide) 1 _⟩⟩, ⟨((Below.heap_setCell _ _ _ _ (Ne.symm HN8.out)).trans H97.out)⟩, ⟨(Kd.R_set HR7.out Hb8.out (by decide) 1 _)⟩, ⟨((Below.heap_setCell _ _ _ _ HN9.out.2.2.2.1).trans HZ7.out)⟩, ⟨((Below.heap_setCell _ _ _ _ HN9.out.2.2.2.2).trans HE7.out)⟩, ⟨(HB7.out.setCell HN.out.1 _)⟩, ⟨HF.out _ _ (if_pos HH6.out) (if_neg (by have := HF7.out; omega))⟩⟩
          · have b6 : ((l.length : Int) == 6) = false := by rw [beq_eq_false_iff_ne]; omega
            have b7 : (l.length == 6) = false := by rw [beq_eq_false_iff_ne]; omega
            have HH6 := Aside0.mk h6
            clear h6
            by_cases hf : f < 4294967295
            · have b8 : decide (f < 4294967295) = true := decide_eq_true hf
              have HF7 := Aside0.mk hf
              clear hf
              go_wp2
              go_meet
              case rel =>
                exact ⟨A6, c6, part, l, (f + 1), ⟨(SQt.set_2 HQ7.out (f + 1))⟩, ⟨((Below.heap_setCell _ _ _ _ (Ne.symm HN8.out)).trans H97.out)⟩, ⟨(Kd.R_set HR7.out Hb8.out (by decide) 2 _)⟩, ⟨((Below.heap_setCell _ _ _ _ HN9.out.2.2.2.1).trans HZ7.out)⟩, ⟨((Below.heap_setCell _ _ _ _ HN9.out.2.2.2.2).trans HE7.out)⟩, ⟨(HB7.out.setCell HN.out.1 _)⟩, ⟨HF.out _ _ (if_neg HH6.out) (if_pos HF7.out)⟩⟩
            · have b8 : decide (f < 4294967295) = false := decide_eq_false hf
              have HF7 := Aside0.mk hf
              clear hf
              go_wp2
              go_meet
              case rel =>
                exact ⟨A6, c6, part, l, f, ⟨HQ7.out⟩, ⟨H97.out⟩, ⟨HR7.out⟩, ⟨HZ7.out⟩, ⟨HE7.out⟩, ⟨HB7.out⟩, ⟨HF.out _ _ (if_neg HH6.out) (if_neg (by have := HF7.out; omega))⟩⟩
      case rest =>
        clear HQ H9 HV HZ HE HB
        obtain ⟨A9, c9, d2, L2, f2, HQ, H9, HV, HZ, HE, HB, HF⟩ := hcut
        obtain ⟨A8, c8, hb8, _, k1, _, kf, hQ8⟩ := HQ.out.cells
        have y0 : wc.cell? ⟨g9, 0, none⟩ = some (.int .i64 num) := (blk_cell H9.out 0).trans rfl
        have y1 : wc.cell? ⟨g9, 1, none⟩ = some (.slice A9 d2.length c9) := (blk_cell H9.out 1).trans rfl
        have HQo := Aside0.mk hQ8
        have Hb8 := Aside0.mk hb8
        have HOP := Aside0.mk (show Kd.R (Kd.int .u8) 5 wc w.heap.size (fun k => (k ≠ g9 ∧ k ≠ g2) ∧ some k ≠ (Value.slice A8 L2.length c8).ownBlock) (.slice A9 d2.length c9) d2 from Kd.R_mono (Kd.R_types (Kd.R_types (Kd.R_apart' HV.out (Kd.Q_typed HQo.out) (by decide)) H9.out (by decide)) HZ.out (by decide)) (fun k hk => ⟨⟨hk.1.2, hk.2⟩, hk.1.1.2⟩))
        have HFr := Aside0.mk (show ∀ k, wc.heap.size ≤ k → k ≠ g9 ∧ k ≠ g2 from fun k hk => ⟨fun h => by have := blk_lt H9.out; omega, fun h => by have := blk_lt HZ.out; omega⟩)
        have HL2 := Aside0.mk (show (L2.length + 1) * 32 ≤ 140737488355328 from by have := HF.out.2.2; omega)
        have hg1' := kf 1
        clear hb8 hQ8 kf
        go_upto_region 21 with (first | ((with_reducible refine gate_builtin (b := .append) (xs := #[.tmp 93, .tmp 95]) rfl ?_); at_builtin; refine Kd.Q_append k58 (w0 := w) (W := wc) w.heap.size rfl (.tmp 93) (.tmp 95) 22 58 _ 32 rfl Try.underlying22 info58 rfl (by decide) (by decide) (.slice A8 L2.length c8) L2 ⟨num, d2⟩ [.int .i64 num, .slice A9 d2.length c9] (fun k => k ≠ g9 ∧ k ≠ g2) (fun k => (k ≠ g9 ∧ k ≠ g2) ∧ some k ≠ (Value.slice A8 L2.length c8).ownBlock) rfl rfl (k58_mkM _ _ _ _ HOP.out) (fun _ h => h) HFr.out HQo.out HB.out HB.out.size HL2.out ?_; intro v1 w1 ho hb hg _; obtain ⟨n0, n1, n2, nf, nS⟩ := SQt.grown Hb8.out ho hg (Kd.Q_ne HQo.out Hb8.out (by decide)); have z1 := nf 1; obtain ⟨A7, c7, e7, _⟩ := Kd.Q_slice ho; subst e7; have HS1 := Aside0.mk nS; have HB1 := Aside0.mk hb; have HG1 := Aside0.mk hg; clear ho hb hg nS nf n0 n2))
        obtain ⟨L3, hL3⟩ : ∃ L3, L2 ++ [(⟨num, d2⟩ : S58)] = L3 := ⟨_, rfl⟩
        have HQ3 := Aside0.mk (show SQt w.heap.size (fun k => k ≠ g9 ∧ k ≠ g2) (w1.setCell ⟨g8, 1, none⟩ (.slice A7 (L2.length + 1) c7)) g8 a L3 f2 from by
          have hh := HS1.out
          rw [show (L2 ++ [(⟨num, d2⟩ : S58)]).length = L2.length + 1 from by rw [List.length_append, List.length_singleton], hL3] at hh
          exact hh)
        have H93 := Aside0.mk ((Below.heap_setCell w1 ⟨g8, 1, none⟩ (.slice A7 (L2.length + 1) c7) g9 (Ne.symm HN8.out)).trans (blk_grown H9.out HG1.out (Kd.Q_away HQo.out (fun _ h => h.1))))
        have HV3 := Aside0.mk (Kd.R_set (Kd.R_over' HV.out (Kd.Q_typed HQo.out) (by decide) HG1.out) (blk_grown Hb8.out HG1.out (Kd.Q_ne HQo.out Hb8.out (by decide))) (by decide) 1 (.slice A7 (L2.length + 1) c7))
        have HZ3 := Aside0.mk ((Below.heap_setCell w1 ⟨g8, 1, none⟩ (.slice A7 (L2.length + 1) c7) g2 HN9.out.2.2.2.1).trans (blk_grown HZ.out HG1.out (Kd.Q_ne HQo.out HZ.out (by decide))))
        have HE3 := Aside0.mk ((Below.heap_setCell w1 ⟨g8, 1, none⟩ (.slice A7 (L2.length + 1) c7) w.heap.size HN9.out.2.2.2.2).trans (blk_grown HE.out HG1.out (Kd.Q_ne HQo.out HE.out (by decide))))
        have HB3 := Aside0.mk (HB1.out.setCell (p := ⟨g8, 1, none⟩) HN.out.1 (.slice A7 (L2.length + 1) c7))
        have HF3 := Aside0.mk (show L3 = bzL a l b at_ ∧ f2 = bzF a l f at_ ∧ bzX a L3 at_ = if (d2.length : Int) ≤ at_ % a then -1 else wrap64 (rd d2 (at_ % a)) from ⟨hL3.symm.trans HF.out.1, HF.out.2.1, by rw [← hL3]; exact bzX_snoc _ _ _ _ _⟩)
        clear hL3 HQ H9 HV HZ HE HB HF HQo Hb8 HOP HFr HL2 HS1 HB1 HG1 y0 y1 k1 hg1' z1 n1
        generalize w1.setCell ⟨g8, 1, none⟩ (.slice A7 (L2.length + 1) c7) = W9 at HQ3 H93 HV3 HZ3 HE3 HB3 ⊢
        obtain ⟨A8, c8, hb8, k0, k1, k2, _, hQ8⟩ := HQ3.out.cells
        have c0 := (blk_cell HE3.out 0).trans rfl
        have y1 : W9.cell? ⟨g9, 1, none⟩ = some (.slice A9 d2.length c9) := (blk_cell H93.out 1).trans rfl
        have HQo := Aside0.mk hQ8
        clear hb8 hQ8
        have r1 : 0 ≤ at_ % a := Int.emod_nonneg _ a3
        have r2 : at_ % a < a := Int.emod_lt_of_pos _ (by omega)
        have z0 := (blk_cell HZ3.out 0).trans rfl
        have z1 := (blk_cell HZ3.out 1).trans rfl
        have z2 := (blk_cell HZ3.out 2).trans rfl
        have f0 := blk_frozen HZ3.out 0
        have f1 := blk_frozen HZ3.out 1
        have f2' := blk_frozen HZ3.out 2
        by_cases hd : (d2.length : Int) ≤ at_ % a
        · have b9 : decide ((d2.length : Int) ≤ at_ % a) = true := decide_eq_true hd
          have HD2 := Aside0.mk (HF3.out.2.2.trans (if_pos hd))
          go_region
          all_goals (go_wp2; refine bodyPost_ret (results_ct rfl _ _ g2 24 #[.int .i64 a, .slice A8 L3.length c8, .int .i64 f2] (0, 0) _ rfl (by refine blk_put (cs := #[.int .i64 a, .slice A8 L3.length c8, .int .i64 0]) ?_ 2 _ rfl; refine blk_put (cs := #[.int .i64 a, .slice none 0 0, .int .i64 0]) ?_ 1 _ rfl; refine blk_put (cs := #[.int .i64 0, .slice none 0 0, .int .i64 0]) ?_ 0 _ rfl; exact HZ3.out) Try.underlying24 rfl (by kernel_rfl)) rfl ?_; exact ⟨_, by rw [← HF3.out.1, ← HF3.out.2.1, HD2.out]; rfl, by rw [← HF3.out.1]; exact Kd.Q_mono (Q_fill (Kd.Q_drew HQo.out) (show W9.drew.heap[g2]? = some zSrc from HZ3.out) _ _ _) (fun _ _ => trivial), below_set (below_set (below_set HB3.out.drew HG.out) HG.out) HG.out⟩)
        · have b9 : decide ((d2.length : Int) ≤ at_ % a) = false := decide_eq_false hd
          have HD2 := Aside0.mk (HF3.out.2.2.trans (if_neg hd))
          obtain ⟨j, hj⟩ : ∃ j : Nat, at_ % a = j := ⟨(at_ % a).toNat, by omega⟩
          rw [hj] at hd HD2 b9
          have hjl : j < d2.length := by omega
          obtain ⟨ad3, hA3, g0⟩ := Kd.at_int (Kd.R_reads' HV3.out).2.2 (j : Int) (by omega) (by omega)
          subst hA3
          rw [Int.toNat_natCast] at g0
          obtain ⟨gb, rfl⟩ := Kd.R_head HV3.out
          have HNA := Aside0.mk (show gb ≠ g2 from fun he => Kd.R_ne HV3.out HZ3.out (by decide) (by rw [← he]; rfl))
          rw [show (⟨gb, 0, none⟩ : Addr).add j = ⟨gb, j, none⟩ from by rw [add_at, Nat.zero_add]] at g0
          have HNW := Aside0.mk (show w.heap.size ≠ g2 from HNW0.out)
          have g1 : (0 ≤ (j : Int)) = True := eq_true (by omega)
          have g2'' : ((j : Int) < (d2.length : Int)) = True := eq_true (by omega)
          have g3 : (j < d2.length) = True := eq_true hjl
          go_cut [105] (fun v105 wx => v105 = .bool false ∧ wx = W9.drew)
          case first =>
            go_region
            all_goals (go_wp2; go_meet; case rel => exact ⟨rfl, rfl⟩)
          case rest =>
            obtain ⟨rfl, rfl⟩ := hcut
            have hst : ∀ k, k ≠ g2 → (((W9.setCell ⟨g2, 0, none⟩ (.int .i64 a)).setCell ⟨g2, 1, none⟩ (.slice A8 L3.length c8)).setCell ⟨g2, 2, none⟩ (.int .i64 f2)).heap[k]? = W9.heap[k]? := fun k hk =>
              ((Below.heap_setCell _ _ _ _ hk).trans (Below.heap_setCell _ _ _ _ hk)).trans (Below.heap_setCell _ _ _ _ hk)
            have s1 := (World.cell?_of_block (a := ⟨g9, 1, none⟩) (hst g9 (Ne.symm HN9.out.1))).trans y1
            have s2 := (World.cell?_of_block (a := ⟨w.heap.size, 0, none⟩) (hst w.heap.size HNW.out)).trans c0
            have s3 := (World.cell?_of_block (a := ⟨gb, j, none⟩) (hst gb HNA.out)).trans g0
            clear hst
            go_wp2
            go_region
            all_goals (go_wp2; refine bodyPost_ret (results_ct rfl _ _ g2 24 #[.int .i64 a, .slice A8 L3.length c8, .int .i64 f2] (0, 0) _ rfl (by refine blk_put (cs := #[.int .i64 a, .slice A8 L3.length c8, .int .i64 0]) ?_ 2 _ rfl; refine blk_put (cs := #[.int .i64 a, .slice none 0 0, .int .i64 0]) ?_ 1 _ rfl; refine blk_put (cs := #[.int .i64 0, .slice none 0 0, .int .i64 0]) ?_ 0 _ rfl; exact (show W9.drew.drew.heap[g2]? = some zSrc from HZ3.out)) Try.underlying24 rfl (by kernel_rfl)) rfl ?_; exact ⟨_, by rw [← HF3.out.1, ← HF3.out.2.1, HD2.out]; rfl, by rw [← HF3.out.1]; exact Kd.Q_mono (Q_fill (Kd.Q_drew (Kd.Q_drew HQo.out)) (show W9.drew.drew.heap[g2]? = some zSrc from HZ3.out) _ _ _) (fun _ _ => trivial), below_set (below_set (below_set HB3.out.drew.drew HG.out) HG.out) HG.out⟩)
theorem SpecByte_c (a f : Int) (A : Option Addr) (c : Nat) (l : List S58) (B : Option Addr) (cb : Nat) (b : List Int) (at_ : Int) (w : World) (hr : Kd.C k58 w A l.length l) (hc : l.length ≤ c) (hl : l.length ≤ 1048576) (hd : ∀ x ∈ l, x.f1.length ≤ 1048576) (hB : Kd.C (Kd.int .u8) w B b.length b) (hcb : b.length ≤ cb) (hb : b.length ≤ 1048576) :
    Calls Try.prog 21 #[.agg #[.int .i64 a, .slice A l.length c, .int .i64 f], .slice B b.length cb, .int .i64 at_] w fun e w' => ∃ v, e = .returned (.tuple #[.agg #[.int .i64 (byS a l f at_), v, .int .i64 (byF a l f at_)], .int .i64 (byX a l f b at_)]) ∧ Kd.Q k58 58 w' w.heap.size (fun _ => True) v (byL a l f b at_) ∧ Below w.heap.size w w' := by
  by_cases ho : byOk a l f at_ = true
  · refine (SpecByte_yes a f A c l B cb b at_ w hr hc hd hB hcb hb ho).mono ?_
    rintro e w' ⟨v, rfl, h⟩
    refine ⟨v, ?_, ?_⟩
    · simp only [byS, byF, byX, if_pos ho]
    · rw [byL, if_pos ho]; exact h
  · have ho' : byOk a l f at_ = false := by simpa using ho
    refine (SpecByte_no a f A c l B b.length cb at_ w hr hc hl ho').mono ?_
    rintro e w' ⟨rfl, h⟩
    refine ⟨.slice none 0 0, ?_, ?_, h⟩
    · simp only [byS, byF, byX, if_neg ho]
    · rw [byL, if_neg ho]; exact Kd.Q_nil _ _ _ _ _
instance (l : List S58) : Decidable (∀ x ∈ l, x.f1.length ≤ 1048576) := List.decidableBAll _ _
def spec_SourceByte.f (k : Nat) (a0_0 : Int) (l0_1 : List S58) (a0_2 : Int) (l1 : List Int) (a2 : Int) : Option (Int × (List S58) × Int × Int) :=
  if l0_1.length ≤ 1048576 ∧ l1.length ≤ 1048576 ∧ ∀ x ∈ l0_1, x.f1.length ≤ 1048576 then some (byS a0_0 l0_1 a0_2 a2, byL a0_0 l0_1 a0_2 l1 a2, byF a0_0 l0_1 a0_2 a2, byX a0_0 l0_1 a0_2 l1 a2) else none
theorem spec_SourceByte.mono : ∀ a0 a1 a2 a3 a4 k, LeO (spec_SourceByte.f k a0 a1 a2 a3 a4) (spec_SourceByte.f (k + 1) a0 a1 a2 a3 a4) := fun _ _ _ _ _ _ _ h => h
theorem spec_SourceByte.calls (k : Nat) (a0_0 : Int) (A0_1 : Option Addr) (c0_1 : Nat) (l0_1 : List S58) (a0_2 : Int) (A1 : Option Addr) (c1 : Nat) (l1 : List Int) (a2 : Int) (r1 : Int) (r2 : List S58) (r3 : Int) (r4 : Int) (w : World) (hr0_1 : Kd.C k58 w A0_1 l0_1.length l0_1) (hc0_1 : l0_1.length ≤ c0_1) (hr1 : Kd.C (Kd.int .u8) w A1 l1.length l1) (hc1 : l1.length ≤ c1) (h : spec_SourceByte.f k a0_0 l0_1 a0_2 l1 a2 = some (r1, r2, r3, r4)) :
    Calls Try.prog 21 #[.agg #[.int .i64 a0_0, .slice A0_1 l0_1.length c0_1, .int .i64 a0_2], .slice A1 l1.length c1, .int .i64 a2] w fun e w' => ∃ v1_ : Value, e = .returned (.tuple #[.agg #[.int .i64 r1, v1_, .int .i64 r3], .int .i64 r4]) ∧ Kd.Q k58 58 w' w.heap.size (fun _ => True) v1_ r2 ∧ Below w.heap.size w w' := by
  unfold spec_SourceByte.f at h
  split at h
  · rename_i hh
    simp only [Option.some.injEq, Prod.mk.injEq] at h
    obtain ⟨rfl, rfl, rfl, rfl⟩ := h
    exact SpecByte_c a0_0 a0_2 A0_1 c0_1 l0_1 A1 c1 l1 a2 w hr0_1 hc0_1 hh.1 hh.2.2 hr1 hc1 hh.2.1
  · cases h
theorem specByte_ok (a f : Int) (l : List S58) (hl : l.length ≤ 1048576) (hd : ∀ x ∈ l, x.f1.length ≤ 1048576) (b : List Int) (hb : b.length ≤ 1048576) (at_ : Int) (k : Nat) :
    spec_SourceByte.f k a l f b at_ = some (byS a l f at_, byL a l f b at_, byF a l f at_, byX a l f b at_) := by
  unfold spec_SourceByte.f
  rw [if_pos ⟨hl, hb, hd⟩]

end Go.Proofs.Ytbjkaapkmemojaa.PFnExactSourceRun
