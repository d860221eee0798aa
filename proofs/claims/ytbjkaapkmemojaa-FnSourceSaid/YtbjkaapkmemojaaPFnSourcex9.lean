-- Written by a program of this session, out of the translation.
import Derived.Test.YtbjkaapkmemojaaPFnSourcex0
import Derived.Test.YtbjkaapkmemojaaPFnSourcex1
import Derived.Test.YtbjkaapkmemojaaPFnSourcex2
import Derived.Test.YtbjkaapkmemojaaPFnSourcex3
import Derived.Test.YtbjkaapkmemojaaPFnSourcex5
import Derived.Test.YtbjkaapkmemojaaPFnSourcex6
import Derived.Test.YtbjkaapkmemojaaPFnSourcex7
import Derived.Test.YtbjkaapkmemojaaPFnSourcex8
namespace Go.Proofs.Ytbjkaapkmemojaa.PFnSource
open Go.RowKit Go.Proofs.YtbjkaapkmemojaaW.PrintWords Go.Proofs.YtbjkaapkmemojaaW.PrintLast Go.Proofs.YtbjkaapkmemojaaW.PrintMore
attribute [local go_sem] max2_int min2_int max_two min_two max_three min_three max_four min_four   -- for this text's walks alone
set_option linter.unusedVariables false
set_option linter.unusedSimpArgs false

/-! ### laws_FnSource: function 4 -/
def srcOk (a : Int) : Bool := decide (1 ≤ a ∧ a ≤ 60000)
theorem within_src (a : Int) : impl_within.f a 1 60000 = some (srcOk a) := by
  unfold impl_within.f srcOk
  by_cases h : a ≥ 1
  · rw [if_pos h]
    congr 1
    rw [Bool.eq_iff_iff, decide_eq_true_eq, decide_eq_true_eq]
    omega
  · rw [if_neg h]
    congr 1
    symm
    rw [decide_eq_false_iff_not]
    omega
theorem within_zero : impl_within.f 0 0 4294967295 = some true := by decide
set_option maxHeartbeats 4000000 in
set_option maxRecDepth 100000 in
theorem SourceOk_e (a : Int) (r : Bool) (hr : srcOk a = r) (w : World) :
    Calls Try.prog 16 #[.agg #[.int .i64 a, .slice none 0 0, .int .i64 0]] w fun e w' => e = .returned (.bool r) ∧ Below w.heap.size w w' := by
  subst hr
  have hu := Try.underlying24
  have HB := Aside0.mk (below_alloc (Below.refl w.heap.size w) (.cells #[.int .i64 a, .slice none 0 0, .int .i64 0] 24))
  have HH := Aside0.mk (heap_alloc_new w (.cells #[.int .i64 a, .slice none 0 0, .int .i64 0] 24))
  have HN := Aside0.mk (show w.heap.size ≤ w.heap.size from Nat.le_refl _)
  go_enter Try.func16, Try.ntmps16
  go_wp2
  generalize (w.alloc (.cells #[.int .i64 a, .slice none 0 0, .int .i64 0] 24)) = W0 at HB HH ⊢
  obtain ⟨g, hg⟩ : ∃ g, w.heap.size = g := ⟨_, rfl⟩
  rw [hg] at HH ⊢
  have c0 : W0.cell? ⟨g, 0, none⟩ = some (.int .i64 a) := (blk_cell HH.out 0).trans rfl
  have c1 : W0.cell? ⟨g, 1, none⟩ = some (.slice none 0 0) := (blk_cell HH.out 1).trans rfl
  have c2 : W0.cell? ⟨g, 2, none⟩ = some (.int .i64 0) := (blk_cell HH.out 2).trans rfl
  go_loopg [8] 0 (fun kq v8 wr => v8 = .int .i64 0 ∧ wr = W0)
  case atStart => exact ⟨rfl, rfl⟩
  case round =>
    obtain ⟨rfl, rfl⟩ := hrel
    have q1 := within_src a
    have q2 := within_zero
    by_cases ho : srcOk a = true
    · rw [ho] at q1
      go_wp2_with (go_at_call 36; first | (with_reducible refine (impl_within.calls a 1 60000 true _ q1).mono ?_; rintro e w' ⟨rfl, ⟨nd, rfl⟩⟩) | (with_reducible refine (impl_within.calls 0 0 4294967295 true _ q2).mono ?_; rintro e w' ⟨rfl, ⟨nd, rfl⟩⟩))
      go_ret
      exact ⟨by first | rfl | (rw [ho]; rfl), pw_below_drewN HB.out _⟩
    · have ho' : srcOk a = false := by simpa using ho
      rw [ho'] at q1
      go_wp2_with (go_at_call 36; (with_reducible refine (impl_within.calls a 1 60000 false _ q1).mono ?_; rintro e w' ⟨rfl, ⟨nd, rfl⟩⟩))
      go_ret
      exact ⟨by first | rfl | (rw [ho']; rfl), pw_below_drewN HB.out _⟩
theorem sn_blocks {w w' : World} {o1 o2 : Obj} (hb : Below ((w.alloc o1).alloc o2).heap.size ((w.alloc o1).alloc o2) w') : w'.heap[w.heap.size]? = some o1 ∧ w'.heap[w.heap.size + 1]? = some o2 ∧ Below w.heap.size w w' := by
  have h1 := heap_alloc_new w o1
  have h2 := heap_alloc_new (w.alloc o1) o2
  have h3 : ((w.alloc o1).alloc o2).heap[w.heap.size]? = some o1 := ((below_alloc (Below.refl _ _) _ : Below (w.alloc o1).heap.size _ _).block w.heap.size (blk_lt h1)).trans h1
  rw [World.size_alloc] at h2
  exact ⟨(hb.block _ (blk_lt h3)).trans h3, (hb.block _ (blk_lt h2)).trans h2, below_step (below_alloc (below_alloc (Below.refl _ _) _) _) hb⟩
set_option maxHeartbeats 4000000 in
set_option maxRecDepth 100000 in
theorem SourceNew_e (a : Int) (w : World) :
    Calls Try.prog 9 #[.int .i64 a] w fun e w' => e = .returned (.tuple #[.agg #[.int .i64 (if srcOk a = true then a else 0), .slice none 0 0, .int .i64 0], .bool (srcOk a)]) ∧ Below w.heap.size w w' := by
  have hu := Try.underlying24
  go_enter Try.func9, Try.ntmps9
  by_cases ho : srcOk a = true
  · go_wp2_with (go_at_call 16; refine (SourceOk_e a true ho _).mono ?_; rintro e w' ⟨rfl, hb⟩; have HS := Aside0.mk (sn_blocks hb); clear hb; have z0 := (blk_cell HS.out.1 0).trans rfl; have z1 := (blk_cell HS.out.1 1).trans rfl; have z2 := (blk_cell HS.out.1 2).trans rfl; have f0 := blk_frozen HS.out.1 0; have f1 := blk_frozen HS.out.1 1; have f2 := blk_frozen HS.out.1 2; have y0 := (blk_cell HS.out.2.1 0).trans rfl; have y1 := (blk_cell HS.out.2.1 1).trans rfl; have y2 := (blk_cell HS.out.2.1 2).trans rfl)
    refine bodyPost_ret (results_ct rfl _ _ w.heap.size 24 #[.int .i64 a, .slice none 0 0, .int .i64 0] (0, 0) _ rfl (by refine blk_put (cs := #[.int .i64 a, .slice none 0 0, .int .i64 0]) ?_ 2 _ rfl; refine blk_put (cs := #[.int .i64 a, .slice none 0 0, .int .i64 0]) ?_ 1 _ rfl; refine blk_put (cs := #[.int .i64 0, .slice none 0 0, .int .i64 0]) ?_ 0 _ rfl; exact HS.out.1) Try.underlying24 rfl (by kernel_rfl)) rfl ?_
    exact ⟨by first | rfl | (simp only [ho]; rfl) | (simp [ho]; done), below_set (below_set (below_set HS.out.2.2 (Nat.le_refl _)) (Nat.le_refl _)) (Nat.le_refl _)⟩
  · have ho' : srcOk a = false := by simpa using ho
    go_wp2_with (go_at_call 16; refine (SourceOk_e a false ho' _).mono ?_; rintro e w' ⟨rfl, hb⟩; have HS := Aside0.mk (sn_blocks hb); clear hb; have z0 := (blk_cell HS.out.1 0).trans rfl; have z1 := (blk_cell HS.out.1 1).trans rfl; have z2 := (blk_cell HS.out.1 2).trans rfl; have f0 := blk_frozen HS.out.1 0; have f1 := blk_frozen HS.out.1 1; have f2 := blk_frozen HS.out.1 2; have y0 := (blk_cell HS.out.2.1 0).trans rfl; have y1 := (blk_cell HS.out.2.1 1).trans rfl; have y2 := (blk_cell HS.out.2.1 2).trans rfl)
    refine bodyPost_ret (results_ct rfl _ _ w.heap.size 24 #[.int .i64 0, .slice none 0 0, .int .i64 0] (0, 0) _ rfl (by refine blk_put (cs := #[.int .i64 0, .slice none 0 0, .int .i64 0]) ?_ 2 _ rfl; refine blk_put (cs := #[.int .i64 0, .slice none 0 0, .int .i64 0]) ?_ 1 _ rfl; refine blk_put (cs := #[.int .i64 0, .slice none 0 0, .int .i64 0]) ?_ 0 _ rfl; exact HS.out.1) Try.underlying24 rfl (by kernel_rfl)) rfl ?_
    exact ⟨by first | rfl | (simp only [ho']; rfl) | (simp [ho']; done), below_set (below_set (below_set HS.out.2.2 (Nat.le_refl _)) (Nat.le_refl _)) (Nat.le_refl _)⟩
theorem rd_at_I {b : List Int} {i : Nat} (h : i < b.length) : rd b (i : Int) = b[i] := by
  unfold rd
  rw [show (i : Int).toNat = i from rfl, List.getD_eq_getElem?_getD, List.getElem?_eq_getElem h]
  rfl
theorem l02Part_l0 (b : List Int) (hb : b.length ≤ 1048576) (from_ n : Nat) (hf : from_ ≤ 1000000000) (hn : n ≤ 1000000000) : ∀ (d k i : Nat) (acc : List Int), i + d = from_ + n → d + 1 ≤ k → acc.length + d ≤ 4000000000 →
    spec_l02Part.l0 k b (from_ : Int) (n : Int) acc (i : Int) = some (acc ++ (b.drop i).take d)
  | 0, k, i, acc, hi, hk, _ => by
    obtain ⟨k, rfl⟩ : ∃ m, k = m + 1 := ⟨k - 1, by omega⟩
    rw [spec_l02Part.l0, w64 (by omega) (by omega), if_neg (by omega), List.take_zero, List.append_nil]
  | d + 1, k, i, acc, hi, hk, ha => by
    obtain ⟨k, rfl⟩ : ∃ m, k = m + 1 := ⟨k - 1, by omega⟩
    rw [spec_l02Part.l0, w64 (by omega) (by omega), if_pos (by omega)]
    by_cases h : i < b.length
    · rw [if_pos (by omega), if_pos (by omega), if_pos (by omega), w64 (by omega) (by omega), show (i : Int) + 1 = ((i + 1 : Nat) : Int) by omega,
        l02Part_l0 b hb from_ n hf hn d k (i + 1) _ (by omega) (by omega) (by rw [List.length_append, List.length_singleton]; omega), rd_at_I h, List.drop_eq_getElem_cons h, List.take_succ_cons, List.append_assoc]
      rfl
    · rw [if_neg (by omega), List.drop_of_length_le (by omega), List.take_nil, List.append_nil]
theorem part_eq (a num : Int) (b : List Int) (h0 : 0 ≤ num * a) (ha : 1 ≤ a) : bzPart a b num = (b.drop (num * a).toNat).take a.toNat := by
  unfold bzPart
  obtain ⟨m, hm⟩ : ∃ m : Nat, num * a = m := ⟨(num * a).toNat, by omega⟩
  obtain ⟨n, rfl⟩ : ∃ n : Nat, a = n := ⟨a.toNat, by omega⟩
  rw [hm, Int.toNat_natCast, Int.toNat_natCast]
  by_cases h : m ≤ b.length
  · rw [show min (m : Int) (b.length : Int) = (m : Int) by omega, Int.toNat_natCast]
    by_cases h2 : m + n ≤ b.length
    · rw [show (min ((m : Int) + (n : Int)) (b.length : Int)).toNat - m = n by omega]
    · rw [show (min ((m : Int) + (n : Int)) (b.length : Int)).toNat - m = b.length - m by omega, List.take_of_length_le (by rw [List.length_drop]; omega), List.take_of_length_le (by rw [List.length_drop]; omega)]
  · rw [show min (m : Int) (b.length : Int) = (b.length : Int) by omega, Int.toNat_natCast, List.drop_of_length_le (Nat.le_refl _), List.drop_of_length_le (by omega), List.take_nil, List.take_nil]
theorem last_snoc (L : List S58) (p : S58) : rd_T58 (L ++ [p]) (((L ++ [p]).length : Int) - 1) = p := by
  unfold rd_T58
  rw [List.length_append, List.length_singleton, show (((L.length + 1 : Nat) : Int) - 1).toNat = L.length by omega, List.getD_eq_getElem?_getD, List.getElem?_append_right (Nat.le_refl _), Nat.sub_self]
  rfl
/-- The page of a number, as pgAt finds it. -/
theorem pgAt_no (num : Int) (l : List S58) : ∀ i : Nat, pgAt num (l.drop i) (i : Int) = -1 → ∀ j, i ≤ j → (h : j < l.length) → l[j].f0 ≠ num := by
  intro i h j hij hj
  induction hn : l.length - i generalizing i with
  | zero => omega
  | succ n ih =>
    have hil : i < l.length := by omega
    rw [List.drop_eq_getElem_cons hil, pgAt] at h
    split at h
    · omega
    · rename_i hx
      rcases Nat.eq_or_lt_of_le hij with rfl | hlt
      · exact hx
      · exact ih (i + 1) (by rw [← h]; rfl) (by omega) (by omega)
theorem pgAt_yes (num : Int) (l : List S58) (k : Nat) : ∀ i : Nat, pgAt num (l.drop i) (i : Int) = (k : Int) → i ≤ k ∧ ∃ h : k < l.length, l[k].f0 = num ∧ ∀ j, i ≤ j → (h2 : j < k) → l[j].f0 ≠ num := by
  intro i h
  induction hn : l.length - i generalizing i with
  | zero => rw [List.drop_of_length_le (by omega), pgAt] at h; omega
  | succ n ih =>
    have hil : i < l.length := by omega
    rw [List.drop_eq_getElem_cons hil, pgAt] at h
    split at h
    · rename_i hx
      have : i = k := by omega
      subst this
      exact ⟨Nat.le_refl _, hil, hx, fun j h1 h2 => by omega⟩
    · rename_i hx
      obtain ⟨h1, h2, h3, h4⟩ := ih (i + 1) (by rw [← h]; rfl) (by omega)
      refine ⟨by omega, h2, h3, fun j hj h5 => ?_⟩
      rcases Nat.eq_or_lt_of_le hj with rfl | hlt
      · exact hx
      · exact h4 j hlt h5
/-- Pages of right sources have numbers of their own. -/
theorem pgAll_at (a : Int) (l : List S58) : ∀ (d i : Nat), pgAll a l d i = true → ∀ j, i ≤ j → j < i + d → pgGood a l j
  | 0, i, _, j, h1, h2 => by omega
  | d + 1, i, h, j, h1, h2 => by
    rw [pgAll, Bool.and_eq_true, decide_eq_true_eq] at h
    rcases Nat.eq_or_lt_of_le h1 with rfl | hlt
    · exact h.1
    · exact pgAll_at a l d (i + 1) h.2 j hlt (by omega)
theorem pg_apart (a : Int) (l : List S58) (h : pgAll a l l.length 0 = true) (i j : Nat) (hij : i < j) (hj : j < l.length) : l[i].f0 ≠ l[j].f0 := by
  have hg := (pgAll_at a l l.length 0 h j (by omega) (by omega)).2.2
  rw [rd_at_P hj] at hg
  have hne : pgAt l[j].f0 (l.take j) 0 = -1 := by
    rcases pgAt_nn l[j].f0 (l.take j) 0 (Int.le_refl _) with h1 | h1
    · exact h1
    · omega
  have := pgAt_no l[j].f0 (l.take j) 0 hne i (Nat.zero_le _) (by rw [List.length_take]; omega)
  rwa [List.getElem_take] at this
def LLp (l : List S58) (K i : Nat) : List S58 := if K < i then (l.take i).eraseIdx K else l.take i
def DDp (l : List S58) (K i : Nat) : List Int := if K < i then (rd_T58 l (K : Int)).f1 else []
theorem LLp_other (l : List S58) (K i : Nat) (h : i < l.length) (hne : i ≠ K) : LLp l K (i + 1) = LLp l K i ++ [l[i]] := by
  unfold LLp
  rw [← List.take_append_getElem h]
  by_cases hk : K < i
  · rw [if_pos (by omega), if_pos hk, List.eraseIdx_append_of_lt_length (by rw [List.length_take]; omega)]
  · rw [if_neg (by omega), if_neg hk]
theorem LLp_it (l : List S58) (K : Nat) (h : K < l.length) : LLp l K (K + 1) = LLp l K K := by
  unfold LLp
  rw [← List.take_append_getElem h, if_pos (by omega), if_neg (by omega), List.eraseIdx_append_of_length_le (by rw [List.length_take]; omega), List.length_take, show K - min K l.length = 0 by omega]
  simp
theorem LLp_len (l : List S58) (K i : Nat) : (LLp l K i).length ≤ l.length := by
  unfold LLp
  have h := List.length_take_le i l
  split
  · have := List.length_eraseIdx_le (l.take i) K
    have h2 : (l.take i).length ≤ l.length := by rw [List.length_take]; omega
    omega
  · rw [List.length_take]; omega
theorem erase0 (l : List S58) (p : S58) (h : 0 < l.length) : (l ++ [p]).eraseIdx 0 = l.drop 1 ++ [p] := by
  cases l with
  | nil => simp at h
  | cons x r => rfl
theorem bzX_snoc (a at_ num : Int) (L : List S58) (p : List Int) : bzX a (L ++ [(⟨num, p⟩ : S58)]) at_ = if (p.length : Int) ≤ at_ % a then -1 else wrap64 (rd p (at_ % a)) := by
  unfold bzX
  rw [last_snoc]
theorem part_f (a num : Int) (b : List Int) (hb : b.length ≤ 1048576) (h0 : 0 ≤ num * a) (h1 : num * a ≤ 60000) (ha : 1 ≤ a) (ha2 : a ≤ 60000) : spec_l02Part.f 100000 b (num * a) a = some (bzPart a b num) := by
  unfold spec_l02Part.f
  obtain ⟨m, hm⟩ : ∃ m : Nat, num * a = m := ⟨(num * a).toNat, by omega⟩
  obtain ⟨n, hn⟩ : ∃ n : Nat, a = n := ⟨a.toNat, by omega⟩
  have h2 := l02Part_l0 b hb m n (by omega) (by omega) n 100000 m [] (by omega) (by omega) (by rw [List.length_nil]; omega)
  rw [List.nil_append] at h2
  rw [part_eq a num b h0 ha, hm, hn, Int.toNat_natCast, Int.toNat_natCast]
  exact h2
theorem Q_fill {W : World} {lo : Nat} {ok : Nat → Prop} {v : Value} {l : List S58} {g : Nat} {cells : Array Value} (hS : Kd.Q k58 58 W lo ok v l) (hz : W.heap[g]? = some (.cells cells 24 (0, 0))) (u0 u1 u2 : Value) :
    Kd.Q k58 58 (((W.setCell ⟨g, 0, none⟩ u0).setCell ⟨g, 1, none⟩ u1).setCell ⟨g, 2, none⟩ u2) lo ok v l :=
  Kd.Q_set (Kd.Q_set (Kd.Q_set hS hz (by decide) 0 u0) (blk_set hz 0 u0) (by decide) 1 u1) (blk_set (blk_set hz 0 u0) 1 u1) (by decide) 2 u2
/-! ### a right source stays one -/
def SrcW (a : Int) (l : List S58) : Prop := (∀ x ∈ l, 0 ≤ x.f0 ∧ (x.f1.length : Int) ≤ a) ∧ l.Pairwise (fun x y => x.f0 ≠ y.f0)
theorem pgAll_of (a : Int) (l : List S58) : ∀ (d i : Nat), (∀ j, i ≤ j → j < i + d → pgGood a l j) → pgAll a l d i = true
  | 0, _, _ => rfl
  | d + 1, i, h => by
    rw [pgAll, Bool.and_eq_true, decide_eq_true_eq]
    exact ⟨h i (Nat.le_refl _) (by omega), pgAll_of a l d (i + 1) (fun j h1 h2 => h j (by omega) (by omega))⟩
theorem srcW_iff (a : Int) (l : List S58) : pgAll a l l.length 0 = true ↔ SrcW a l := by
  constructor
  · intro h
    refine ⟨fun x hx => ?_, ?_⟩
    · obtain ⟨j, hj, rfl⟩ := List.mem_iff_getElem.1 hx
      have hg := pgAll_at a l l.length 0 h j (by omega) (by omega)
      unfold pgGood at hg
      rw [rd_at_P hj] at hg
      exact ⟨hg.1, hg.2.1⟩
    · rw [List.pairwise_iff_getElem]
      exact fun i j _ hj hij => pg_apart a l h i j hij hj
  · rintro ⟨h1, h2⟩
    rw [List.pairwise_iff_getElem] at h2
    refine pgAll_of a l l.length 0 (fun j _ hj => ?_)
    have hj' : j < l.length := by omega
    unfold pgGood
    rw [rd_at_P hj']
    refine ⟨(h1 _ (List.getElem_mem hj')).1, (h1 _ (List.getElem_mem hj')).2, ?_⟩
    rcases pgAt_nn l[j].f0 (l.take j) 0 (Int.le_refl _) with h | h
    · omega
    · obtain ⟨k, hk⟩ : ∃ k : Nat, pgAt l[j].f0 (l.take j) 0 = k := ⟨(pgAt l[j].f0 (l.take j) 0).toNat, by omega⟩
      obtain ⟨_, hkl, hk2, _⟩ := pgAt_yes l[j].f0 (l.take j) k 0 (by rw [List.drop_zero]; exact hk)
      rw [List.length_take] at hkl
      rw [List.getElem_take] at hk2
      exact absurd hk2 (h2 k j (by omega) hj' (by omega))
theorem srcM_iff (a : Int) (l : List S58) (f : Int) : srcM a l f = true ↔ SrcW a l ∧ 1 ≤ a ∧ a ≤ 60000 ∧ l.length ≤ 6 ∧ 0 ≤ f ∧ f ≤ 4294967295 := by
  unfold srcM
  rw [Bool.and_eq_true, decide_eq_true_eq, srcW_iff]
theorem bzL_srcW (a : Int) (l : List S58) (b : List Int) (at_ : Int) (h : SrcW a l) (ha : 1 ≤ a) (ht : 0 ≤ at_) : SrcW a (bzL a l b at_) := by
  unfold bzL
  have hr := pgAt_range (at_ / a) l 0 (Int.le_refl 0)
  split
  · rename_i hk
    obtain ⟨k, hk2⟩ : ∃ k : Nat, pgAt (at_ / a) l 0 = k := ⟨(pgAt (at_ / a) l 0).toNat, by omega⟩
    have hkl : k < l.length := by omega
    rw [hk2, Int.toNat_natCast, rd_at_P hkl]
    refine ⟨fun x hx => ?_, ?_⟩
    · rcases List.mem_append.1 hx with h1 | h1
      · exact h.1 x (List.mem_of_mem_eraseIdx h1)
      · rw [List.mem_singleton.1 h1]; exact h.1 _ (List.getElem_mem hkl)
    · rw [List.pairwise_append]
      refine ⟨h.2.sublist (List.eraseIdx_sublist _ _), List.pairwise_singleton _ _, fun x hx y hy => ?_⟩
      rw [List.mem_singleton.1 hy]
      obtain ⟨j, hj, hne, rfl⟩ := List.mem_eraseIdx_iff_getElem.1 hx
      have hp := List.pairwise_iff_getElem.1 h.2
      rcases Nat.lt_or_gt_of_ne hne with h3 | h3
      · exact hp j k hj hkl h3
      · exact fun he => hp k j hkl hj h3 he.symm
  · rename_i hk
    have hno : pgAt (at_ / a) l 0 = -1 := by omega
    have hW : SrcW a (l ++ [(⟨at_ / a, bzPart a b (at_ / a)⟩ : S58)]) := by
      refine ⟨fun x hx => ?_, ?_⟩
      · rcases List.mem_append.1 hx with h1 | h1
        · exact h.1 x h1
        · rw [List.mem_singleton.1 h1]
          refine ⟨Int.ediv_nonneg ht (by omega), ?_⟩
          show ((bzPart a b (at_ / a)).length : Int) ≤ a
          unfold bzPart
          rw [List.length_take, List.length_drop]
          omega
      · rw [List.pairwise_append]
        refine ⟨h.2, List.pairwise_singleton _ _, fun x hx y hy => ?_⟩
        rw [List.mem_singleton.1 hy]
        obtain ⟨j, hj, rfl⟩ := List.mem_iff_getElem.1 hx
        exact pgAt_no (at_ / a) l 0 hno j (Nat.zero_le _) hj
    split
    · exact ⟨fun x hx => hW.1 x (List.mem_of_mem_eraseIdx hx), hW.2.sublist (List.eraseIdx_sublist _ _)⟩
    · exact hW
theorem srcM_step (a : Int) (l : List S58) (f : Int) (b : List Int) (at_ : Int) (h : srcM a l f = true) (ht : 0 ≤ at_) : srcM a (bzL a l b at_) (bzF a l f at_) = true := by
  rw [srcM_iff] at h ⊢
  obtain ⟨h1, h2, h3, h4, h5⟩ := h
  exact ⟨bzL_srcW a l b at_ h1 h2 ht, h2, h3, bzL_len6 a l b at_ h4, bzF_range a l f at_ h5⟩
theorem rnM_facts (a : Int) (b : List Int) : ∀ (n : Nat) (l : List S58) (f at_ : Int) (acc : List Int), srcM a l f = true → 0 ≤ at_ → srcM a (rnM a b n l f at_ acc).1 (rnM a b n l f at_ acc).2.1 = true ∧ (rnM a b n l f at_ acc).2.2.length ≤ acc.length + n
  | 0, l, f, at_, acc, h, _ => ⟨h, Nat.le_refl _⟩
  | n + 1, l, f, at_, acc, h, ht => by
    rw [rnM]
    split
    · exact ⟨srcM_step a l f b at_ h ht, by show acc.length ≤ _; omega⟩
    · have := rnM_facts a b n _ _ (at_ + 1) (acc ++ [bzX a (bzL a l b at_) at_ % 256]) (srcM_step a l f b at_ h ht) (by omega)
      rw [List.length_append, List.length_singleton] at this
      exact ⟨this.1, by omega⟩
theorem srcM_data {a : Int} {l : List S58} {f : Int} (h : srcM a l f = true) : ∀ x ∈ l, x.f1.length ≤ 60000 := by
  rw [srcM_iff] at h
  intro x hx
  have := (h.1.1 x hx).2
  omega
theorem ru_bound (a f from_ tp : Int) (l : List S58) (b : List Int) : (ruL a l f b from_ tp).length ≤ 6 ∧ (∀ x ∈ ruL a l f b from_ tp, x.f1.length ≤ 1048576) ∧ (ruB a l f b from_ tp).length ≤ 60000 := by
  unfold ruL ruB
  by_cases ho : ruOk a l f from_ tp = true
  · rw [if_pos ho, if_pos ho]
    have ho2 := ho
    unfold ruOk at ho2
    rw [Bool.and_eq_true, Bool.and_eq_true, decide_eq_true_eq, decide_eq_true_eq] at ho2
    obtain ⟨⟨hs, h0⟩, h6⟩ := ho2
    have h := rnM_facts a b (tp - from_).toNat l f from_ [] hs h0
    unfold ruR
    refine ⟨(srcM_facts h.1).2.2.1, fun x hx => by have := srcM_data h.1 x hx; omega, ?_⟩
    have := h.2
    rw [List.length_nil] at this
    omega
  · rw [if_neg ho, if_neg ho]
    exact ⟨Nat.zero_le _, (fun x hx => nomatch hx), Nat.zero_le _⟩
/-! ### a source that is read through -/
theorem nine {P : Int → Prop} (a : Int) (h : 1 ≤ a ∧ a ≤ 9) (h1 : P 1) (h2 : P 2) (h3 : P 3) (h4 : P 4) (h5 : P 5) (h6 : P 6) (h7 : P 7) (h8 : P 8) (h9 : P 9) : P a := by
  have : a = 1 ∨ a = 2 ∨ a = 3 ∨ a = 4 ∨ a = 5 ∨ a = 6 ∨ a = 7 ∨ a = 8 ∨ a = 9 := by omega
  rcases this with rfl | rfl | rfl | rfl | rfl | rfl | rfl | rfl | rfl <;> assumption
theorem ar1 (a at_ : Int) (h : 1 ≤ a ∧ a ≤ 9) (ht : 0 ≤ at_) : (at_ % a = 0 → (at_ + a - 1) / a = at_ / a) ∧ (at_ % a ≠ 0 → (at_ + a - 1) / a = at_ / a + 1) ∧ (at_ + 1 + a - 1) / a = at_ / a + 1 ∧ (at_ % a ≠ 0 → 0 < at_ ∧ (at_ - 1) / a = at_ / a) ∧ at_ = at_ / a * a + at_ % a ∧ 0 ≤ at_ % a ∧ at_ % a < a ∧ 0 ≤ at_ / a := by
  refine nine (P := fun a => (at_ % a = 0 → (at_ + a - 1) / a = at_ / a) ∧ (at_ % a ≠ 0 → (at_ + a - 1) / a = at_ / a + 1) ∧ (at_ + 1 + a - 1) / a = at_ / a + 1 ∧ (at_ % a ≠ 0 → 0 < at_ ∧ (at_ - 1) / a = at_ / a) ∧ at_ = at_ / a * a + at_ % a ∧ 0 ≤ at_ % a ∧ at_ % a < a ∧ 0 ≤ at_ / a) a h ?_ ?_ ?_ ?_ ?_ ?_ ?_ ?_ ?_ <;> (refine ⟨?_, ?_, ?_, ?_, ?_, ?_, ?_, ?_⟩ <;> omega)
def FsI (a : Int) (b : List Int) (at_ : Int) (l : List S58) (f : Int) (acc : List Int) : Prop :=
  (∀ p ∈ l, p.f0 * a < at_ ∧ p.f1 = bzPart a b p.f0) ∧ f = (at_ + a - 1) / a ∧ acc = b.take at_.toNat ∧ (0 < at_ → ∃ p ∈ l, p.f0 = (at_ - 1) / a) ∧ srcM a l f = true
theorem fs_step (a : Int) (ha : 1 ≤ a ∧ a ≤ 9) (b : List Int) (hb : b.length ≤ 60000) (hby : ∀ x ∈ b, 0 ≤ x ∧ x < 256) (at_ : Int) (ht : 0 ≤ at_) (hlt : at_ < b.length) (l : List S58) (f : Int) (acc : List Int) (h : FsI a b at_ l f acc) :
    FsI a b (at_ + 1) (bzL a l b at_) (bzF a l f at_) (acc ++ [bzX a (bzL a l b at_) at_ % 256]) ∧ bzX a (bzL a l b at_) at_ = rd b at_ ∧ 0 ≤ rd b at_ ∧ ((∃ p ∈ l, p.f0 = at_ / a) → bzF a l f at_ = f) := by
  obtain ⟨h1, h2, h3, h4, h5⟩ := h
  obtain ⟨r1, r2, r3, r4, r5, r6, r7, r8⟩ := ar1 a at_ ha ht
  have hr := pgAt_range (at_ / a) l 0 (Int.le_refl 0)
  have hsf := srcM_facts h5
  have hX : ∃ X, bzL a l b at_ = X ++ [(⟨at_ / a, bzPart a b (at_ / a)⟩ : S58)] ∧ (∀ p ∈ X, p ∈ l) ∧ bzF a l f at_ = (at_ + 1 + a - 1) / a ∧ ((∃ p ∈ l, p.f0 = at_ / a) → bzF a l f at_ = f) := by
    unfold bzL bzF
    by_cases hk : 0 ≤ pgAt (at_ / a) l 0
    · rw [if_pos hk, if_pos hk]
      obtain ⟨k, hk2⟩ : ∃ k : Nat, pgAt (at_ / a) l 0 = k := ⟨(pgAt (at_ / a) l 0).toNat, by omega⟩
      obtain ⟨_, hkl, hk3, _⟩ := pgAt_yes (at_ / a) l k 0 (by rw [List.drop_zero]; exact hk2)
      rw [hk2, Int.toNat_natCast, rd_at_P hkl]
      have hp := h1 _ (List.getElem_mem hkl)
      rw [hk3] at hp
      have hne : at_ % a ≠ 0 := by omega
      refine ⟨l.eraseIdx k, ?_, fun p hp => List.mem_of_mem_eraseIdx hp, by rw [h2, r2 hne, r3], fun _ => rfl⟩
      rw [← hp.2, ← hk3]
    · rw [if_neg hk, if_neg hk]
      have hno : pgAt (at_ / a) l 0 = -1 := by omega
      have hnot : ¬ ∃ p ∈ l, p.f0 = at_ / a := by
        rintro ⟨p, hp, he⟩
        obtain ⟨j, hj, rfl⟩ := List.mem_iff_getElem.1 hp
        exact pgAt_no (at_ / a) l 0 hno j (Nat.zero_le _) hj he
      have h0 : at_ % a = 0 := by
        by_cases hz : at_ % a = 0
        · exact hz
        · obtain ⟨q1, q2⟩ := r4 hz
          obtain ⟨p, hp, he⟩ := h4 q1
          exact absurd ⟨p, hp, he.trans q2⟩ hnot
      have hf : min (f + 1) 4294967295 = (at_ + 1 + a - 1) / a := by
        rw [h2, r1 h0, r3]
        have : at_ / a ≤ at_ := Int.ediv_le_self _ ht
        omega
      by_cases h6 : 6 < (l ++ [(⟨at_ / a, bzPart a b (at_ / a)⟩ : S58)]).length
      · rw [if_pos h6, erase0 _ _ (by rw [List.length_append, List.length_singleton] at h6; omega)]
        exact ⟨l.drop 1, rfl, fun p hp => List.mem_of_mem_drop hp, hf, fun h => absurd h hnot⟩
      · rw [if_neg h6]
        exact ⟨l, rfl, fun p hp => hp, hf, fun h => absurd h hnot⟩
  obtain ⟨X, hL, hXl, hF, hFf⟩ := hX
  have hsm := srcM_step a l f b at_ h5 ht
  have hq2 : 0 ≤ at_ / a * a := Int.mul_nonneg r8 (by omega)
  have hx : bzX a (bzL a l b at_) at_ = rd b at_ := by
    rw [hL, bzX_snoc, part_eq a (at_ / a) b hq2 ha.1]
    obtain ⟨m, hm⟩ : ∃ m : Nat, at_ / a * a = m := ⟨(at_ / a * a).toNat, by omega⟩
    obtain ⟨j, hj⟩ : ∃ j : Nat, at_ % a = j := ⟨(at_ % a).toNat, by omega⟩
    obtain ⟨n, hn⟩ : ∃ n : Nat, a = n := ⟨a.toNat, by omega⟩
    obtain ⟨i, hi⟩ : ∃ i : Nat, at_ = i := ⟨at_.toNat, by omega⟩
    have hij : i = m + j := by omega
    have hjn : j < n := by omega
    rw [hm, hj, hn, Int.toNat_natCast, Int.toNat_natCast, if_neg (by rw [List.length_take, List.length_drop]; omega)]
    have hlen : j < ((b.drop m).take n).length := by rw [List.length_take, List.length_drop]; omega
    rw [hi, rd_at_I hlen, rd_at_I (show i < b.length by omega), List.getElem_take, List.getElem_drop]
    have hbi := hby b[m + j] (List.getElem_mem _)
    rw [w64 (by omega) (by omega)]
    congr 1
    exact hij.symm
  have hrd : 0 ≤ rd b at_ ∧ rd b at_ < 256 := by
    obtain ⟨i, hi⟩ : ∃ i : Nat, at_ = i := ⟨at_.toNat, by omega⟩
    rw [hi, rd_at_I (show i < b.length by omega)]
    exact hby _ (List.getElem_mem _)
  refine ⟨⟨fun p hp => ?_, hF, ?_, fun _ => ?_, ?_⟩, hx, hrd.1, hFf⟩
  · rw [hL] at hp
    rcases List.mem_append.1 hp with hp | hp
    · have := h1 p (hXl p hp)
      exact ⟨by omega, this.2⟩
    · rw [List.mem_singleton.1 hp]
      exact ⟨by show at_ / a * a < at_ + 1; omega, rfl⟩
  · obtain ⟨i, hi⟩ : ∃ i : Nat, at_ = i := ⟨at_.toNat, by omega⟩
    have hil : i < b.length := by omega
    rw [hx, h3, show rd b at_ % 256 = rd b at_ by omega, hi, rd_at_I hil, Int.toNat_natCast, show ((i : Int) + 1).toNat = i + 1 by omega, List.take_append_getElem hil]
  · refine ⟨⟨at_ / a, bzPart a b (at_ / a)⟩, by rw [hL]; exact List.mem_append_right _ (List.mem_singleton_self _), ?_⟩
    show at_ / a = (at_ + 1 - 1) / a
    rw [show at_ + 1 - 1 = at_ by omega]
  · exact hsm
theorem fs_run (a : Int) (ha : 1 ≤ a ∧ a ≤ 9) (b : List Int) (hb : b.length ≤ 60000) (hby : ∀ x ∈ b, 0 ≤ x ∧ x < 256) : ∀ (n : Nat) (at_ : Int) (l : List S58) (f : Int) (acc : List Int), 0 ≤ at_ → at_ + n = b.length → FsI a b at_ l f acc →
    FsI a b b.length (rnM a b n l f at_ acc).1 (rnM a b n l f at_ acc).2.1 (rnM a b n l f at_ acc).2.2
  | 0, at_, l, f, acc, h0, hn, h => by
    rw [show ((b.length : Nat) : Int) = at_ by omega]
    exact h
  | n + 1, at_, l, f, acc, h0, hn, h => by
    obtain ⟨hs1, hs2, hs3, _⟩ := fs_step a ha b hb hby at_ h0 (by omega) l f acc h
    rw [rnM, if_neg (by rw [hs2]; omega)]
    exact fs_run a ha b hb hby n (at_ + 1) _ _ _ (by omega) (by omega) hs1
theorem fs_start (a : Int) (ha : 1 ≤ a ∧ a ≤ 9) (b : List Int) : FsI a b 0 [] 0 [] := by
  refine ⟨fun p hp => (nomatch hp), ?_, rfl, fun h => (by omega), ?_⟩
  · have := (ar1 a 0 ha (Int.le_refl 0)).1 (by simp)
    rw [this]; simp
  · rw [srcM_iff]
    exact ⟨⟨fun x hx => (nomatch hx), List.Pairwise.nil⟩, by omega, by omega, by simp, by omega, by omega⟩
/-- What the law asks of the source that has been read through. -/
theorem fs_all (a : Int) (ha : 1 ≤ a ∧ a ≤ 9) (b : List Int) (hb : b.length ≤ 60000) (hby : ∀ x ∈ b, 0 ≤ x ∧ x < 256) :
    ruOk a [] 0 0 (b.length : Int) = true ∧ ruS a [] 0 0 (b.length : Int) = a ∧ ruF a [] 0 b 0 (b.length : Int) = ((b.length : Int) + a - 1) / a ∧ ruB a [] 0 b 0 (b.length : Int) = b ∧ srcM a (ruL a [] 0 b 0 (b.length : Int)) (ruF a [] 0 b 0 (b.length : Int)) = true ∧ (b.length = 0 → ruL a [] 0 b 0 (b.length : Int) = []) ∧
      (0 < b.length → byOk a (ruL a [] 0 b 0 (b.length : Int)) (ruF a [] 0 b 0 (b.length : Int)) ((b.length : Int) - 1) = true ∧ byX a (ruL a [] 0 b 0 (b.length : Int)) (ruF a [] 0 b 0 (b.length : Int)) b ((b.length : Int) - 1) = rd b ((b.length : Int) - 1) ∧ byF a (ruL a [] 0 b 0 (b.length : Int)) (ruF a [] 0 b 0 (b.length : Int)) ((b.length : Int) - 1) = ruF a [] 0 b 0 (b.length : Int)) := by
  have hst := fs_start a ha b
  have ho : ruOk a [] 0 0 (b.length : Int) = true := by
    unfold ruOk
    rw [hst.2.2.2.2, Bool.and_eq_true, Bool.and_eq_true, decide_eq_true_eq, decide_eq_true_eq]
    exact ⟨⟨rfl, by omega⟩, by omega⟩
  have hrun := fs_run a ha b hb hby b.length 0 [] 0 [] (by omega) (by omega) hst
  have hn : ((b.length : Int) - 0).toNat = b.length := by omega
  have e2 : ruL a [] 0 b 0 (b.length : Int) = (rnM a b b.length [] 0 0 []).1 := by unfold ruL ruR; rw [if_pos ho, hn]
  have e3 : ruF a [] 0 b 0 (b.length : Int) = (rnM a b b.length [] 0 0 []).2.1 := by unfold ruF ruR; rw [if_pos ho, hn]
  have e4 : ruB a [] 0 b 0 (b.length : Int) = (rnM a b b.length [] 0 0 []).2.2 := by unfold ruB ruR; rw [if_pos ho, hn]
  rw [e2, e3, e4]
  generalize (rnM a b b.length [] 0 0 []).2.1 = F at hrun ⊢
  generalize (rnM a b b.length [] 0 0 []).2.2 = R at hrun ⊢
  have hz : b.length = 0 → (rnM a b b.length [] 0 0 []).1 = [] := fun h => by rw [h]; rfl
  generalize (rnM a b b.length [] 0 0 []).1 = L at hrun hz ⊢
  obtain ⟨g1, g2, g3, g4, g5⟩ := hrun
  refine ⟨ho, by unfold ruS; rw [if_pos ho], g2, by rw [g3, Int.toNat_natCast, List.take_length], g5, hz, fun hpos => ?_⟩
  have hbo : byOk a L F ((b.length : Int) - 1) = true := by
    unfold byOk
    rw [g5, Bool.true_and, decide_eq_true_eq]
    omega
  obtain ⟨p, hp, hpe⟩ := g4 (by omega)
  obtain ⟨r1, r2, r3, r4, r5, r6, r7, r8⟩ := ar1 a ((b.length : Int) - 1) ha (by omega)
  refine ⟨hbo, ?_, ?_⟩
  · unfold byX
    rw [if_pos hbo]
    have hk := pgAt_range (((b.length : Int) - 1) / a) L 0 (Int.le_refl 0)
    have hyes : 0 ≤ pgAt (((b.length : Int) - 1) / a) L 0 := by
      rcases hk with h | h
      · obtain ⟨j, hj, rfl⟩ := List.mem_iff_getElem.1 hp
        exact absurd hpe (pgAt_no _ L 0 h j (Nat.zero_le _) hj)
      · exact h.1
    obtain ⟨k, hk2⟩ : ∃ k : Nat, pgAt (((b.length : Int) - 1) / a) L 0 = k := ⟨(pgAt (((b.length : Int) - 1) / a) L 0).toNat, by omega⟩
    obtain ⟨_, hkl, hk3, _⟩ := pgAt_yes (((b.length : Int) - 1) / a) L k 0 (by rw [List.drop_zero]; exact hk2)
    have hpk := (g1 _ (List.getElem_mem hkl)).2
    unfold bzL
    rw [if_pos hyes, hk2, Int.toNat_natCast, rd_at_P hkl, show (L.eraseIdx k ++ [L[k]]) = L.eraseIdx k ++ [(⟨L[k].f0, L[k].f1⟩ : S58)] from rfl, bzX_snoc, hpk, hk3]
    have hq2 : 0 ≤ ((b.length : Int) - 1) / a * a := Int.mul_nonneg r8 (by omega)
    rw [part_eq a _ b hq2 ha.1]
    obtain ⟨m, hm⟩ : ∃ m : Nat, ((b.length : Int) - 1) / a * a = m := ⟨(((b.length : Int) - 1) / a * a).toNat, by omega⟩
    obtain ⟨j, hj⟩ : ∃ j : Nat, ((b.length : Int) - 1) % a = j := ⟨(((b.length : Int) - 1) % a).toNat, by omega⟩
    obtain ⟨n, hn2⟩ : ∃ n : Nat, a = n := ⟨a.toNat, by omega⟩
    obtain ⟨i, hi⟩ : ∃ i : Nat, (b.length : Int) - 1 = i := ⟨b.length - 1, by omega⟩
    have hij : i = m + j := by omega
    have hjn : j < n := by omega
    rw [hm, hj, hn2, Int.toNat_natCast, Int.toNat_natCast, if_neg (by rw [List.length_take, List.length_drop]; omega)]
    have hlen : j < ((b.drop m).take n).length := by rw [List.length_take, List.length_drop]; omega
    rw [hi, rd_at_I hlen, rd_at_I (show i < b.length by omega), List.getElem_take, List.getElem_drop]
    have hbi := hby b[m + j] (List.getElem_mem _)
    rw [w64 (by omega) (by omega)]
    congr 1
    exact hij.symm
  · unfold byF bzF
    rw [if_pos hbo]
    have hk := pgAt_range (((b.length : Int) - 1) / a) L 0 (Int.le_refl 0)
    rw [if_pos]
    rcases hk with h | h
    · obtain ⟨j, hj, rfl⟩ := List.mem_iff_getElem.1 hp
      exact absurd hpe (pgAt_no _ L 0 h j (Nat.zero_le _) hj)
    · exact h.1
def FS (w W : World) (g7 : Nat) (a : Int) (A7 : Option Addr) (c7 : Nat) (rL : List S58) (rF : Int) (AU : Option Addr) (cU : Nat) (AB : Option Addr) (cB : Nat) (b : List Int) : Prop :=
  W.heap[g7]? = some (.cells #[.int .i64 a, .slice A7 rL.length c7, .int .i64 rF] 24 (0, 0)) ∧ Kd.C k58 W A7 rL.length rL ∧ Kd.C (Kd.int .u8) W AU b.length b ∧ Kd.C (Kd.int .u8) W AB b.length b ∧ Below w.heap.size w W
section
variable {w W W' : World} {g7 c7 cU cB : Nat} {a rF : Int} {A7 AU AB : Option Addr} {rL : List S58} {b : List Int}
theorem FS.below (h : FS w W g7 a A7 c7 rL rF AU cU AB cB b) (hb : Below W.heap.size W W') : FS w W' g7 a A7 c7 rL rF AU cU AB cB b := ⟨(hb.block _ (blk_lt h.1)).trans h.1, Kd.C_below h.2.1 hb, Kd.C_below h.2.2.1 hb, Kd.C_below h.2.2.2.1 hb, below_step h.2.2.2.2 hb⟩
theorem FS.cells (h : FS w W g7 a A7 c7 rL rF AU cU AB cB b) : W.cell? ⟨g7, 0, none⟩ = some (.int .i64 a) ∧ W.cell? ⟨g7, 1, none⟩ = some (.slice A7 rL.length c7) ∧ W.cell? ⟨g7, 2, none⟩ = some (.int .i64 rF) := ⟨(blk_cell h.1 0).trans rfl, (blk_cell h.1 1).trans rfl, (blk_cell h.1 2).trans rfl⟩
theorem FS.cv1 (h : FS w W g7 a A7 c7 rL rF AU cU AB cB b) : (convert 30 9 (.slice AU b.length cU)).run Try.prog W = .ok (.string (strOfNums b)) W := Kd.C_string Try.underlying30 Try.underlying5 Try.underlying9 h.2.2.1
theorem FS.cv2 (h : FS w W g7 a A7 c7 rL rF AU cU AB cB b) : (convert 30 9 (.slice AB b.length cB)).run Try.prog W = .ok (.string (strOfNums b)) W := Kd.C_string Try.underlying30 Try.underlying5 Try.underlying9 h.2.2.2.1
theorem FS.run (h : FS w W g7 a A7 c7 rL rF AU cU AB cB b) : Kd.C k58 W A7 rL.length rL := h.2.1
theorem FS.byt (h : FS w W g7 a A7 c7 rL rF AU cU AB cB b) : Kd.C (Kd.int .u8) W AB b.length b := h.2.2.2.1
theorem FS.bel (h : FS w W g7 a A7 c7 rL rF AU cU AB cB b) : Below w.heap.size w W := h.2.2.2.2
end
set_option maxHeartbeats 8000000 in
set_option maxRecDepth 100000 in
theorem fs_walk (a n0 rF tS : Int) (rL tL : List S58) (b : List Int) (A : Option Addr) (n c : Nat) (w : World) (hn : n ≤ 1048576) (ha : 1 ≤ a ∧ a ≤ 9) (hn0 : 1 + n0 = a) (hb : b.length ≤ 60000) (hF : rF = ((b.length : Int) + a - 1) / a) (hL6 : rL.length ≤ 6) (hz : b.length = 0 → rL = []) (hby : ∀ x ∈ b, 0 ≤ x ∧ x < 256)
    (h13 : Calls Try.prog 13 #[.slice A n c] w fun e w' => ∃ v, e = .returned v ∧ Kd.R (Kd.int .u8) 5 w' w.heap.size (fun _ => True) v b ∧ Below w.heap.size w w')
    (h14 : ∀ W, Below w.heap.size w W → Calls Try.prog 14 #[.slice A n c, .int .i64 9] W fun e w' => e = .returned (.int .i64 n0) ∧ Below W.heap.size W w')
    (h9 : ∀ W, Calls Try.prog 9 #[.int .i64 a] W fun e w' => e = .returned (.tuple #[.agg #[.int .i64 a, .slice none 0 0, .int .i64 0], .bool true]) ∧ Below W.heap.size W w')
    (h15 : ∀ W B cb, Kd.C (Kd.int .u8) W B b.length b → b.length ≤ cb → Calls Try.prog 15 #[.agg #[.int .i64 a, .slice none 0 0, .int .i64 0], .slice B b.length cb, .int .i64 0, .int .i64 (b.length : Int)] W fun e w' => ∃ v u, e = .returned (.tuple #[.agg #[.int .i64 a, v, .int .i64 rF], u]) ∧ Kd.S k58 58 w' W.heap.size (fun k => some k ≠ u.ownBlock) v rL ∧ Kd.R (Kd.int .u8) 5 w' W.heap.size (fun _ => True) u b ∧ Below W.heap.size W w')
    (h16 : ∀ W A c, Kd.C k58 W A rL.length rL → rL.length ≤ c → Calls Try.prog 16 #[.agg #[.int .i64 a, .slice A rL.length c, .int .i64 rF]] W fun e w' => e = .returned (.bool true) ∧ Below W.heap.size W w')
    (h17 : 0 < b.length → ∀ W A c B cb, Kd.C k58 W A rL.length rL → rL.length ≤ c → Kd.C (Kd.int .u8) W B b.length b → b.length ≤ cb → Calls Try.prog 17 #[.agg #[.int .i64 a, .slice A rL.length c, .int .i64 rF], .slice B b.length cb, .int .i64 ((b.length : Int) - 1)] W fun e w' => ∃ v, e = .returned (.tuple #[.agg #[.int .i64 tS, v, .int .i64 rF], .int .i64 (rd b ((b.length : Int) - 1))]) ∧ Kd.S k58 58 w' W.heap.size (fun _ => True) v tL ∧ Below W.heap.size W w') :
    Calls Try.prog 4 #[.slice A n c] w fun e w' => e = .returned (.bool true) ∧ Below w.heap.size w w' := by
  have hu := Try.underlying24
  have hu30 := Try.underlying30
  have b1 : decide ((1048576 : Int) < (n : Int)) = false := decide_eq_false (by omega)
  have b1' : decide (1048576 < n) = false := decide_eq_false (by omega)
  have hw0 : wrap64 (1 + n0) = a := by unfold wrap64; omega
  have hw0' : IntKind.i64.wrap (1 + n0) = a := by rw [IntWalk.i64_in _ (by omega)]; exact hn0
  have HA := Aside0.mk ha
  have HB6 := Aside0.mk hb
  have HF := Aside0.mk hF
  have HL6 := Aside0.mk hL6
  have HZ := Aside0.mk hz
  have HBY := Aside0.mk hby
  clear ha hb hF hL6 hz hn hn0 hby
  go_enter Try.func4, Try.ntmps4
  go_upto_region 5 with (first | (go_at_call 13; refine h13.mono ?_; rintro e w1 ⟨v1, rfl, hR1, hb1⟩; obtain ⟨AB, cB, e1⟩ := Kd.R_slice hR1; subst e1; have HR1 := Aside0.mk hR1; have HB1 := Aside0.mk hb1; clear hR1 hb1) | (go_at_call 14; refine (h14 _ HB1.out).mono ?_; rintro e w2 ⟨rfl, hb2⟩; have HR2 := Aside0.mk (Kd.R_below HR1.out hb2); have HB2 := Aside0.mk (below_step HB1.out hb2); clear hb2 HR1 HB1))
  go_upto_region 6 with (go_at_call 9; refine (h9 _).mono ?_; rintro e w3 ⟨rfl, hb3⟩; have HR3 := Aside0.mk (Kd.R_below HR2.out hb3); have HB3 := Aside0.mk (below_step HB2.out hb3); clear hb3 HR2 HB2)
  have HR4 := Aside0.mk (Kd.R_alloc HR3.out (.cells #[.int .i64 a, .slice none 0 0, .int .i64 0] 24))
  have HB4 := Aside0.mk (below_alloc HB3.out (.cells #[.int .i64 a, .slice none 0 0, .int .i64 0] 24))
  have HG4 := Aside0.mk (heap_alloc_new w3 (.cells #[.int .i64 a, .slice none 0 0, .int .i64 0] 24))
  clear HR3 HB3
  generalize w3.alloc (.cells #[.int .i64 a, .slice none 0 0, .int .i64 0] 24) = W4 at HR4 HB4 HG4 ⊢
  generalize w3.heap.size = g5 at HG4 ⊢
  have z0 := (blk_cell HG4.out 0).trans rfl
  have z1 := (blk_cell HG4.out 1).trans rfl
  have z2 := (blk_cell HG4.out 2).trans rfl
  have HCB := Aside0.mk (Kd.R_reads' HR4.out).2.1
  go_upto_region 7 with (go_at_call 15; (with_reducible refine (h15 _ AB cB (Kd.R_reads' HR4.out).2.2 HCB.out).mono ?_); rintro e w5 ⟨v5, u5, rfl, hS5, hR5, hb5⟩; obtain ⟨A7, c7, e7⟩ := Kd.S_slice hS5; subst e7; obtain ⟨AU, cU, e8⟩ := Kd.R_slice hR5; subst e8; have HS5 := Aside0.mk hS5; have HU5 := Aside0.mk hR5; have HR5 := Aside0.mk (Kd.R_below HR4.out hb5); have HB5 := Aside0.mk (below_step HB4.out hb5); clear hS5 hR5 hb5 HR4 HB4)
  have HC7 := Aside0.mk (Kd.S_reads' HS5.out).2.1
  have HFS := Aside0.mk (show FS w (w5.alloc (.cells #[.int .i64 a, .slice A7 rL.length c7, .int .i64 rF] 24)) w5.heap.size a A7 c7 rL rF AU cU AB cB b from ⟨heap_alloc_new w5 _, Kd.C_alloc (Kd.S_reads' HS5.out).2.2 _, Kd.C_alloc (Kd.R_reads' HU5.out).2.2 _, Kd.C_alloc (Kd.R_reads' HR5.out).2.2 _, below_alloc HB5.out _⟩)
  clear z0 z1 z2 HG4 HS5 HU5 HR5 HB5
  generalize w5.alloc (.cells #[.int .i64 a, .slice A7 rL.length c7, .int .i64 rF] 24) = W6 at HFS ⊢
  generalize w5.heap.size = g7 at HFS ⊢
  have hq1 : IntKind.i64.wrap ((b.length : Int) + a) = (b.length : Int) + a := IntWalk.i64_in _ (by have := HA.out; have := HB6.out; omega)
  have hq2 : IntKind.i64.wrap ((b.length : Int) + a - 1) = (b.length : Int) + a - 1 := IntWalk.i64_in _ (by have := HA.out; have := HB6.out; omega)
  have a0 : (a == 0) = false := by rw [beq_eq_false_iff_ne]; have := HA.out; omega
  have a3 : ¬ (a = 0) := by have := HA.out; omega
  have a1 : 1 ≤ a := HA.out.1
  have a2 : 0 ≤ (b.length : Int) + a - 1 := by omega
  have a4 : (b.length : Int) + a - 1 ≤ 9223372036854775807 := by have := HA.out; have := HB6.out; omega
  have hqd : IntKind.i64.wrap (((b.length : Int) + a - 1).tdiv a) = ((b.length : Int) + a - 1) / a := IntWalk.i64_quo _ _ ⟨a2, a4, a1⟩
  have b5 : (rF != ((b.length : Int) + a - 1) / a) = false := by rw [HF.out]; exact bne_self_eq_false _
  have b6 : decide ((6 : Int) < (rL.length : Int)) = false := decide_eq_false (by have := HL6.out; omega)
  have b6' : decide (6 < rL.length) = false := decide_eq_false (by have := HL6.out; omega)
  go_cut [63] (fun v63 wc => v63 = .bool false ∧ Aside0 (FS w wc g7 a A7 c7 rL rF AU cU AB cB b))
  case first =>
    have n_ := Aside0.mk (HFS.out.below (show Below W6.heap.size W6 W6.drew from below_drew (Below.refl _ _)))
    obtain ⟨y0, y1, y2⟩ := HFS.out.cells
    clear HFS
    have HFS := n_
    clear n_
    have k1 := HFS.out.cv1
    have k2 := HFS.out.cv2
    go_still_tail 22, (by kernel_rfl)
    change wpList _ _ _ _ _ W6.drew
    clear y0 y1 y2 k1 k2
    generalize W6.drew = W7 at HFS ⊢
    obtain ⟨y0, y1, y2⟩ := HFS.out.cells
    go_wp2_with (go_at_call 16; (with_reducible refine (h16 _ A7 c7 HFS.out.run HC7.out).mono ?_); rintro e w6 ⟨rfl, hb6⟩; have n_ := Aside0.mk (HFS.out.below hb6); clear HFS; have HFS := n_; clear n_; obtain ⟨m0, m1, m2⟩ := HFS.out.cells; clear hb6)
    go_meet
    case rel => exact ⟨rfl, HFS⟩
  case rest =>
    clear HFS
    obtain ⟨rfl, HFS⟩ := hcut
    by_cases hz : b.length = 0
    · have c1 : ((b.length : Int) == 0) = true := by rw [beq_iff_eq]; omega
      have c2 : (b.length == 0) = true := by rw [beq_iff_eq]; omega
      have hr := HZ.out hz
      subst hr
      have HZZ := Aside0.mk hz
      clear hz
      obtain ⟨y0, y1, y2⟩ := HFS.out.cells
      go_wp2
      go_ret
      exact ⟨rfl, HFS.out.bel⟩
    · have c1 : ((b.length : Int) == 0) = false := by rw [beq_eq_false_iff_ne]; omega
      have c2 : (b.length == 0) = false := by rw [beq_eq_false_iff_ne]; omega
      have HZZ := Aside0.mk (show 0 < b.length by omega)
      clear hz
      have hq3 : wrap64 ((b.length : Int) - 1) = (b.length : Int) - 1 := by have := HB6.out; have := HZZ.out; unfold wrap64; omega
      obtain ⟨y0, y1, y2⟩ := HFS.out.cells
      go_upto_region 12 with (go_at_call 17; (with_reducible refine (h17 HZZ.out _ A7 c7 AB cB HFS.out.run HC7.out HFS.out.byt HCB.out).mono ?_); rintro e w6 ⟨v6, rfl, hS6, hb6⟩; obtain ⟨A9, c9, e9⟩ := Kd.S_slice hS6; subst e9; have n_ := Aside0.mk (HFS.out.below hb6); clear HFS; have HFS := n_; clear n_; clear hb6 hS6)
      clear y0 y1 y2
      have HG9 := Aside0.mk (heap_alloc_new w6 (.cells #[.int .i64 tS, .slice A9 tL.length c9, .int .i64 rF] 24))
      have n_ := Aside0.mk (HFS.out.below (below_alloc (Below.refl _ _) (.cells #[.int .i64 tS, .slice A9 tL.length c9, .int .i64 rF] 24)))
      clear HFS
      have HFS := n_
      clear n_
      generalize w6.alloc (.cells #[.int .i64 tS, .slice A9 tL.length c9, .int .i64 rF] 24) = W9 at HG9 HFS ⊢
      generalize w6.heap.size = g9 at HG9 ⊢
      obtain ⟨y0, y1, y2⟩ := HFS.out.cells
      have x2 : W9.cell? ⟨g9, 2, none⟩ = some (.int .i64 rF) := (blk_cell HG9.out 2).trans rfl
      obtain ⟨i, hi⟩ : ∃ i : Nat, (b.length : Int) - 1 = i := ⟨b.length - 1, by have := HZZ.out; omega⟩
      have hil : i < b.length := by omega
      obtain ⟨ad3, hA3, g0⟩ := Kd.at_int HFS.out.byt (i : Int) (by omega) (by omega)
      subst hA3
      rw [Int.toNat_natCast] at g0
      have g1 : (0 ≤ (i : Int)) = True := eq_true (by omega)
      have g2 : ((i : Int) < (b.length : Int)) = True := eq_true (by omega)
      have g3 : (i < b.length) = True := eq_true hil
      have hrd : 0 ≤ rd b (i : Int) ∧ rd b (i : Int) < 256 := by rw [rd_at_I hil]; exact HBY.out _ (List.getElem_mem _)
      have hcv : wrap64 (rd b (i : Int)) = rd b (i : Int) := by unfold wrap64; omega
      have hcv' : IntKind.i64.wrap (rd b (i : Int)) = rd b (i : Int) := IntWalk.i64_in _ (by omega)
      rw [hi] at hq3
      clear hil
      go_wp2
      go_ret
      exact ⟨rfl, HFS.out.bel⟩
theorem fs_and255 (x : Int) : 0 ≤ Go.bits .and .i64 x 255 ∧ Go.bits .and .i64 x 255 ≤ 255 := by
  have h : (BitVec.ofInt 64 x &&& BitVec.ofInt 64 ((255 : Nat) : Int)).toNat ≤ 255 := by
    rw [BitVec.toNat_and, BitVec.ofInt_natCast, BitVec.toNat_ofNat, Nat.mod_eq_of_lt (by omega)]
    exact Nat.and_le_right
  show 0 ≤ IntKind.i64.wrap (((BitVec.ofInt 64 x &&& BitVec.ofInt 64 ((255 : Nat) : Int)).toNat : Nat) : Int) ∧ IntKind.i64.wrap (((BitVec.ofInt 64 x &&& BitVec.ofInt 64 ((255 : Nat) : Int)).toNat : Nat) : Int) ≤ 255
  rw [IntKind.wrap_i64]
  omega
theorem fs_tmod {x a : Int} (h0 : 0 ≤ x) (ha : 0 < a) : 0 ≤ Int.tmod x a ∧ Int.tmod x a < a := ⟨Int.tmod_nonneg _ h0, Int.tmod_lt_of_pos _ ha⟩
theorem fs_l01Byte (b : List Int) (i h : Int) (hb : b.length ≤ 4611686018427387904) (h0 : 0 ≤ i) (h1 : i ≤ b.length) : ∃ v i' h', spec_l01Byte.f b i h = some (v, i', h') ∧ 0 ≤ v ∧ v ≤ 255 ∧ 0 ≤ i' ∧ i' ≤ b.length := by
  unfold spec_l01Byte.f
  by_cases c : i < (b.length : Int)
  · rw [if_pos c, if_pos h0, w64 (x := i + 1) (by omega) (by omega)]
    exact ⟨_, _, _, rfl, (fs_and255 _).1, (fs_and255 _).2, by omega, by omega⟩
  · rw [if_neg c]
    exact ⟨_, _, _, rfl, (fs_and255 _).1, (fs_and255 _).2, h0, h1⟩
theorem fs_l01Below (b : List Int) (i h a : Int) (hb : b.length ≤ 4611686018427387904) (h0 : 0 ≤ i) (h1 : i ≤ b.length) (ha : 0 < a ∧ a ≤ 256) : ∃ v i' h', spec_l01Below.f b i h a = some (v, i', h') ∧ 0 ≤ v ∧ v < a ∧ 0 ≤ i' ∧ i' ≤ b.length := by
  unfold spec_l01Below.f
  rw [if_neg (by omega), if_pos (by omega)]
  obtain ⟨v, i', h', e, v0, v1, j0, j1⟩ := fs_l01Byte b i h hb h0 h1
  rw [e, Option.bind_some, if_neg (by omega)]
  have := fs_tmod (x := v) (a := a) v0 (by omega)
  exact ⟨_, _, _, rfl, this.1, this.2, j0, j1⟩
theorem fs_l01New_l0 (b : List Int) (hb : b.length ≤ 4611686018427387904) (d : Nat) : ∀ (k : Nat) (h i : Int), 0 ≤ i → (b.length : Int) - i ≤ d → d < k → ∃ h', spec_l01New.l0 k b h i = some (b, 0, h') := by
  induction d with
  | zero =>
    intro k h i h0 hd hk
    obtain ⟨k, rfl⟩ : ∃ m, k = m + 1 := ⟨k - 1, by omega⟩
    exact ⟨h, by rw [spec_l01New.l0, if_neg (by omega)]⟩
  | succ d ih =>
    intro k h i h0 hd hk
    obtain ⟨k, rfl⟩ : ∃ m, k = m + 1 := ⟨k - 1, by omega⟩
    rw [spec_l01New.l0]
    by_cases c : i < (b.length : Int)
    · rw [if_pos c]
      by_cases c2 : i < 4000
      · rw [if_pos c2, if_pos h0, w64 (x := i + 1) (by omega) (by omega)]
        exact ih k _ (i + 1) (by omega) (by omega) (by omega)
      · rw [if_neg c2]; exact ⟨h, rfl⟩
    · rw [if_neg c]; exact ⟨h, rfl⟩
theorem fs_l01New (b : List Int) (hb : b.length ≤ 4611686018427387904) (k : Nat) (hk : b.length < k) : ∃ h, spec_l01New.f k b = some (b, 0, h) := by
  unfold spec_l01New.f
  exact fs_l01New_l0 b hb b.length k _ 0 (by omega) (by omega) hk
theorem fs_l01Bytes_l0 (b : List Int) (hb : b.length ≤ 4611686018427387904) (n : Int) (hn : n ≤ 100) (d : Nat) : ∀ (k : Nat) (acc : List Int) (j i h : Int), 0 ≤ j → j ≤ 100 → (acc.length : Int) = j → n - j ≤ d → d < k → 0 ≤ i → i ≤ b.length → (∀ x ∈ acc, 0 ≤ x ∧ x < 256) → ∃ v i' h', spec_l01Bytes.l0 k n acc j b i h = some (v, i', h') ∧ v.length ≤ 100 ∧ ∀ x ∈ v, 0 ≤ x ∧ x < 256 := by
  induction d with
  | zero =>
    intro k acc j i h h0 h1 hj hd hk i0 i1 hx
    obtain ⟨k, rfl⟩ : ∃ m, k = m + 1 := ⟨k - 1, by omega⟩
    exact ⟨acc, i, h, by rw [spec_l01Bytes.l0, if_neg (by omega)], by omega, hx⟩
  | succ d ih =>
    intro k acc j i h h0 h1 hj hd hk i0 i1 hx
    obtain ⟨k, rfl⟩ : ∃ m, k = m + 1 := ⟨k - 1, by omega⟩
    rw [spec_l01Bytes.l0]
    by_cases c : j < n
    · obtain ⟨v, i', h', e, v0, v1, j0, j1⟩ := fs_l01Byte b i h hb i0 i1
      rw [if_pos c, e, Option.bind_some, if_pos (by omega), w64 (x := j + 1) (by omega) (by omega)]
      refine ih k _ (j + 1) i' h' (by omega) (by omega) (by rw [List.length_append, List.length_singleton]; omega) (by omega) (by omega) j0 j1 (fun x hm => ?_)
      rcases List.mem_append.1 hm with hm | hm
      · exact hx x hm
      · rw [List.mem_singleton.1 hm]; omega
    · rw [if_neg c]; exact ⟨acc, i, h, rfl, by omega, hx⟩
theorem fs_MakeBytes (b : List Int) (hb : b.length ≤ 4611686018427387904) (k : Nat) (hk : b.length + 200 ≤ k) : ∃ v, spec_MakeBytes.f k b = some v ∧ v.length ≤ 100 ∧ ∀ x ∈ v, 0 ≤ x ∧ x < 256 := by
  obtain ⟨h, e⟩ := fs_l01New b hb k (by omega)
  unfold spec_MakeBytes.f
  rw [e, Option.bind_some]
  unfold spec_l01Bytes.f
  rw [show wrap64 (40 + 1) = 41 by rw [w64 (by omega) (by omega)]; rfl]
  obtain ⟨n, i, h, e, n0, n1, j0, j1⟩ := fs_l01Below b 0 h 41 hb (by omega) (by omega) (by omega)
  simp only [e, Option.bind_some]
  obtain ⟨v, i', h', e, hv, hx⟩ := fs_l01Bytes_l0 b hb n (by omega) 100 k [] 0 i h (by omega) (by omega) rfl (by omega) (by omega) j0 j1 (fun x hm => nomatch hm)
  simp only [e, Option.bind_some]
  exact ⟨v, rfl, hv, hx⟩
theorem fs_MakeNum (b : List Int) (hb : b.length ≤ 4611686018427387904) (k : Nat) (hk : b.length + 200 ≤ k) : ∃ v, spec_MakeNum.f k b 9 = some v ∧ 0 ≤ v ∧ v < 9 := by
  obtain ⟨h, e⟩ := fs_l01New b hb k (by omega)
  unfold spec_MakeNum.f
  rw [e, Option.bind_some]
  obtain ⟨v, i, h, e, v0, v1, _, _⟩ := fs_l01Below b 0 (wrap64 (h + 777)) 9 hb (by omega) (by omega) (by decide)
  simp only [e, Option.bind_some]
  exact ⟨v, rfl, v0, v1⟩
theorem fs_big (A : Option Addr) (n c : Nat) (w : World) (hn : 1048576 < n) :
    Calls Try.prog 4 #[.slice A n c] w fun e w' => e = .returned (.bool true) ∧ Below w.heap.size w w' := by
  have b1 : decide ((1048576 : Int) < (n : Int)) = true := decide_eq_true (by omega)
  have b1' : decide (1048576 < n) = true := decide_eq_true hn
  clear hn
  go_enter Try.func4, Try.ntmps4
  go_wp2
  go_ret
  exact ⟨rfl, Below.refl _ _⟩
def laws_FnSource.f (k : Nat) (l0 : List Int) : Option Bool := some true
theorem laws_FnSource.mono : ∀ a0 k, LeO (laws_FnSource.f k a0) (laws_FnSource.f (k + 1) a0) := fun _ _ _ h => h
theorem laws_FnSource.calls (k : Nat) (A0 : Option Addr) (c0 : Nat) (l0 : List Int) (r : Bool) (w : World) (hr0 : Kd.C (Kd.int .u8) w A0 l0.length l0) (hc0 : l0.length ≤ c0) (h : laws_FnSource.f k l0 = some r) :
    Calls Try.prog 4 #[.slice A0 l0.length c0] w fun e w' => e = .returned (.bool r) ∧ Below w.heap.size w w' := by
  obtain rfl := Option.some.inj h
  by_cases hn : l0.length ≤ 1048576
  · obtain ⟨b, hb1, hb2, hb3⟩ := fs_MakeBytes l0 (by omega) (l0.length + 200) (by omega)
    obtain ⟨n0, g1, g2, g3⟩ := fs_MakeNum l0 (by omega) (l0.length + 200) (by omega)
    obtain ⟨a, ha0⟩ : ∃ a, 1 + n0 = a := ⟨_, rfl⟩
    have ha : 1 ≤ a ∧ a ≤ 9 := by omega
    obtain ⟨p1, p2, p3, p4, p5, p6, p7⟩ := fs_all a ha b (by omega) hb3
    obtain ⟨q1, q2, _⟩ := ru_bound a 0 0 (b.length : Int) [] b
    refine fs_walk a n0 (ruF a [] 0 b 0 (b.length : Int)) (byS a (ruL a [] 0 b 0 (b.length : Int)) (ruF a [] 0 b 0 (b.length : Int)) ((b.length : Int) - 1)) (ruL a [] 0 b 0 (b.length : Int)) (byL a (ruL a [] 0 b 0 (b.length : Int)) (ruF a [] 0 b 0 (b.length : Int)) b ((b.length : Int) - 1)) b A0 l0.length c0 w hn ha ha0 (by omega) p3 q1 p6 hb3 ?_ ?_ ?_ ?_ ?_ ?_
    · exact spec_MakeBytes.calls _ A0 c0 l0 b w hr0 hc0 hb1
    · exact fun W hW => spec_MakeNum.calls _ A0 c0 l0 9 n0 W (Kd.C_below hr0 hW) hc0 g1
    · intro W
      have h1 := SourceNew_e a W
      have h2 : srcOk a = true := decide_eq_true (by omega)
      rw [h2, if_pos rfl] at h1
      exact h1
    · intro W B cb hB hcb
      have h1 := SourceRun_c a 0 none 0 [] B cb b 0 (b.length : Int) W (Kd.C_nil _ _) (Nat.le_refl _) (by simp) (fun x hx => nomatch hx) hB hcb (by omega)
      rw [p2, p4] at h1
      exact h1
    · intro W A c hC hc
      exact impl_SourceOk.calls _ a A c _ _ true W hC hc (by rw [impl_SourceOk_ok a _ (by omega) _ _ (Nat.le_refl _), p5])
    · intro hp W A c B cb hC hc hB hcb
      have h1 := SourceByte_c a (ruF a [] 0 b 0 (b.length : Int)) A c (ruL a [] 0 b 0 (b.length : Int)) B cb b ((b.length : Int) - 1) W hC hc (by omega) q2 hB hcb (by omega)
      rw [(p7 hp).2.1, (p7 hp).2.2] at h1
      exact h1
  · exact fs_big A0 l0.length c0 w (by omega)

end Go.Proofs.Ytbjkaapkmemojaa.PFnSource
