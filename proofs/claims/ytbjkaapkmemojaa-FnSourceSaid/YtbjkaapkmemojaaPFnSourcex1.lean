-- Written by a program of this session, out of the translation.
import Derived.Test.YtbjkaapkmemojaaPFnSourcex0
namespace Go.Proofs.Ytbjkaapkmemojaa.PFnSource
open Go.RowKit Go.Proofs.YtbjkaapkmemojaaW.PrintWords Go.Proofs.YtbjkaapkmemojaaW.PrintLast Go.Proofs.YtbjkaapkmemojaaW.PrintMore
attribute [local go_sem] max2_int min2_int max_two min_two max_three min_three max_four min_four   -- for this text's walks alone
set_option linter.unusedVariables false
set_option linter.unusedSimpArgs false

/-! ### impl_pageAt: function 35 -/
def pgAt (num : Int) : List S58 → Int → Int
  | [], _ => -1
  | x :: r, i => if x.f0 = num then i else pgAt num r (i + 1)
def impl_pageAt.f (k : Nat) (l0 : List S58) (a1 : Int) : Option Int := if l0.length ≤ 1000000000000 then some (pgAt a1 l0 0) else none
theorem impl_pageAt.mono : ∀ a0 a1 k, LeO (impl_pageAt.f k a0 a1) (impl_pageAt.f (k + 1) a0 a1) := fun _ _ _ _ h => h
set_option maxHeartbeats 1000000 in
set_option maxRecDepth 100000 in
theorem pgPred (num x0 : Int) (A : Option Addr) (n c g : Nat) (W : World) (hg : W.cell? ⟨g, 0, none⟩ = some (.int .i64 num)) :
    Calls Try.prog 45 #[.agg #[.int .i64 x0, .slice A n c], .pointer (some ⟨g, 0, none⟩)] W fun e w' => e = .returned (.bool (x0 == num)) ∧ Below W.heap.size W w' := by
  have hu := Try.underlying58
  have hc : (W.alloc (.cells #[.int .i64 x0, .slice A n c] 58)).cell? ⟨g, 0, none⟩ = some (.int .i64 num) := Lib.cell?_alloc_some _ hg
  go_enter Try.func45, Try.ntmps45
  go_wp2
  go_ret
  exact ⟨rfl, below_alloc (Below.refl _ _) _⟩
theorem pgAt_at (num : Int) (l : List S58) (i : Nat) (h : i < l.length) : pgAt num (l.drop i) (i : Int) = if (rd_T58 l (i : Int)).f0 = num then (i : Int) else pgAt num (l.drop (i + 1)) ((i + 1 : Nat) : Int) := by
  rw [List.drop_eq_getElem_cons h, pgAt]
  have e : rd_T58 l (i : Int) = l[i] := by
    unfold rd_T58
    rw [show (i : Int).toNat = i from rfl, List.getD_eq_getElem?_getD, List.getElem?_eq_getElem h]
    rfl
  rw [e]
  rfl
set_option maxHeartbeats 1000000 in
set_option maxRecDepth 100000 in
theorem pgIdx (num : Int) (g : Nat) (A0 : Option Addr) (c0 : Nat) (l0 : List S58) (hl : l0.length ≤ 1000000000000) (w : World) (hr0 : Kd.C k58 w A0 l0.length l0) (hg : w.cell? ⟨g, 0, none⟩ = some (.int .i64 num)) :
    Calls Try.prog 44 #[.slice A0 l0.length c0, .func (.func 45) #[] #[.pointer (some ⟨g, 0, none⟩)]] w fun e w' => e = .returned (.int .i64 (pgAt num l0 0)) ∧ Below w.heap.size w w' := by
  have hu := Try.underlying58
  have HR := Aside0.mk hr0
  have HG := Aside0.mk hg
  have HL := Aside0.mk hl
  clear hr0 hg hl
  go_enter Try.func44, Try.ntmps44
  go_wp2
  go_loopg [8] l0.length (fun kq v8 wr => ∃ (i : Nat), v8 = .int .i64 (i : Int) ∧ Aside0 (i + kq = l0.length) ∧ Aside0 (pgAt num (l0.drop i) (i : Int) = pgAt num l0 0) ∧ Aside0 (Below w.heap.size w wr))
  case atStart => exact ⟨0, rfl, ⟨by omega⟩, ⟨rfl⟩, ⟨Below.refl _ _⟩⟩
  case round =>
    obtain ⟨i, rfl, HI, HP, HB⟩ := hrel
    obtain ⟨gk_1, hgk⟩ : ∃ q, l0.length - (i + 1) = q := ⟨_, rfl⟩
    have HK1 := Aside0.mk hgk
    clear hgk
    by_cases ci : i < l0.length
    · have q1 : ((i : Int) < (l0.length : Int)) = True := eq_true (by omega)
      have p1 : (0 ≤ (i : Int)) = True := eq_true (by omega)
      have hw : wrap64 ((i : Int) + 1) = ((i + 1 : Nat) : Int) := by have := HL.out; unfold wrap64; omega
      obtain ⟨ad, A1, c1, hA, h0, h1, _, _⟩ := at_T58 (Kd.C_below HR.out HB.out) (i : Int) (by omega) (by omega)
      subst hA
      rw [Int.toNat_natCast] at h0 h1
      have hgr : wr.cell? ⟨g, 0, none⟩ = some (.int .i64 num) := (HB.out.cell (World.block_lt_of_cell? w _ HG.out)).trans HG.out
      have HH := Aside0.mk hgr
      clear hgr
      have hst := pgAt_at num l0 i ci
      generalize rd_T58 l0 (i : Int) = x at h0 h1 hst
      have HT := Aside0.mk hst
      clear hst
      by_cases cx : x.f0 = num
      · have b1 : (x.f0 == num) = true := by simpa using cx
        have HX := Aside0.mk cx
        clear cx
        go_wp2_with (go_at_call 45; refine (pgPred num x.f0 _ _ _ g _ HH.out).mono ?_; rintro e w' ⟨rfl, hb⟩)
        go_ret
        exact ⟨by rw [← HP.out, HT.out, if_pos HX.out]; rfl, below_step HB.out hb⟩
      · have b1 : (x.f0 == num) = false := by simpa using cx
        have HX := Aside0.mk cx
        clear cx
        go_wp2_with (go_at_call 45; refine (pgPred num x.f0 _ _ _ g _ HH.out).mono ?_; rintro e w' ⟨rfl, hb⟩)
        go_roundg gk_1
        case measure => (have := HK1.out; have := HI.out; omega)
        case rel => exact ⟨i + 1, (by first | rfl | (simp only [hw]) | (simp; done)), ⟨by have := HI.out; have := HK1.out; omega⟩, ⟨by rw [← HP.out, HT.out, if_neg HX.out]⟩, ⟨below_step HB.out hb⟩⟩
    · have hi : i = l0.length := by have := HI.out; omega
      have q1 : ((i : Int) < (l0.length : Int)) = False := eq_false (by omega)
      have HE := Aside0.mk (show pgAt num l0 0 = -1 from by rw [← HP.out, hi, List.drop_length]; rfl)
      go_wp2
      go_ret
      exact ⟨by rw [HE.out]; rfl, HB.out⟩
set_option maxHeartbeats 1000000 in
set_option maxRecDepth 100000 in
theorem impl_pageAt.calls (k : Nat) (A0 : Option Addr) (c0 : Nat) (l0 : List S58) (a1 : Int) (r : Int) (w : World) (hr0 : Kd.C k58 w A0 l0.length l0) (hc0 : l0.length ≤ c0) (h : impl_pageAt.f k l0 a1 = some r) :
    Calls Try.prog 35 #[.slice A0 l0.length c0, .int .i64 a1] w fun e w' => e = .returned (.int .i64 r) ∧ Below w.heap.size w w' := by
  unfold impl_pageAt.f at h
  by_cases hs : l0.length ≤ 1000000000000
  · rw [if_pos hs] at h
    obtain rfl := Option.some.inj h
    clear h
    have HB := Aside0.mk (below_alloc (Below.refl w.heap.size w) (.cells #[.int .i64 a1] 3))
    have HC := Aside0.mk (Kd.C_below hr0 HB.out)
    have HH := Aside0.mk (blk_cell (heap_alloc_new w (.cells #[.int .i64 a1] 3)) 0)
    clear hr0
    go_enter Try.func35, Try.ntmps35
    go_wp2_with (go_at_call 44; refine (pgIdx a1 w.heap.size A0 c0 l0 hs _ HC.out (HH.out.trans rfl)).mono ?_; rintro e w' ⟨rfl, hb⟩)
    go_ret
    exact ⟨rfl, below_step HB.out hb⟩
  · rw [if_neg hs] at h
    cases h

/-! ### impl_copyBytes: function 42 -/
/-- Behind element i taken out of the row with a hole at i, the others stand as they were. -/
theorem gap_tag {α : Type} {f : Nat → Nat} {d : Kd α} {k : Nat} {c : List Value} {e : Nat} {w : World} {base : Nat} {ok : Nat → Prop} {v : Value} {xs : List α} (h : (Kd.gap f d k c).R e w base ok v (xs.zipIdx.eraseIdx k)) : (Kd.tag f d).R e w base ok v (xs.zipIdx.eraseIdx k) := by
  obtain ⟨h0, inner, ho, hr⟩ := h
  refine ⟨h0, inner, ho, hr.1, fun j p hj => (hr.2 j p hj).2 ?_⟩
  rw [List.getElem?_eraseIdx] at hj
  split at hj
  · rw [List.getElem?_zipIdx, Nat.zero_add] at hj
    obtain ⟨x, _, rfl⟩ := Option.map_eq_some_iff.1 hj
    show j ≠ k
    omega
  · rw [List.getElem?_zipIdx, Nat.zero_add] at hj
    obtain ⟨x, _, rfl⟩ := Option.map_eq_some_iff.1 hj
    show j + 1 ≠ k
    omega
theorem H_delete_step {α : Type} {P : Program} {ops : Array Oper} {o : Oper} {a : Act} {Q : Exit → Act → World → Prop} {Kc : Act → World → Prop} (d : Kd α) {w0 W : World} (base : Nat) (hw : Region.wanted o (yielded ops a.tmps) = true) (s x : Operand) (t e : TypeId) (ho : o.op = .call { callee := .builtin .append, args := #[s, x], argTypes := #[t, t] })
    (ht : P.underlying t = some (.slice e)) (hinfo : (P.info? e).map (·.size) = some d.sz) {g n c k m c2 : Nat} {A : Option Addr} {xs : List α} {ok oki : Nat → Prop} {cc : List Value}
    (hs : a.eval s = .slice (some ⟨g, 0, none⟩) k c) (hx : a.eval x = .slice A m c2) (hA : A = if c = k + 1 then some ⟨g, 0, none⟩ else (some (⟨g, 0, none⟩ : Addr)).map (·.add ((k + 1) * d.sz))) (hm : m = n - (k + 1))
    (HO : Kd.H d e W base ok (.slice (some ⟨g, 0, none⟩) n c) xs (k : Int) oki cc) (hk : k < n) (HB : Below base w0 W) (hbase : base ≤ W.heap.size)
    (h : ∀ w1, Kd.S d e w1 base (fun q => ok q ∧ ¬ oki q) (.slice (some ⟨g, 0, none⟩) (n - 1) c) (xs.eraseIdx k) → Below base w0 w1 → W.grownBy w1 (some g) → Kc (a.put o.dst (.slice (some ⟨g, 0, none⟩) (n - 1) c)) w1) :
    if Region.wanted o (yielded ops a.tmps) = true then Oper.wp P o a W Kc Q else Kc (a.put o.dst undef) W := by
  obtain ⟨_, f, HR⟩ := HO
  have HR' : (Kd.gap f d k cc).R e W base (fun q => ok q ∧ ¬ oki q) (.slice (some ⟨g, 0, none⟩) n c) xs.zipIdx := HR
  exact Kd.R_delete_step (Kd.gap f d k cc) base hw s x t e ho ht hinfo hs hx hA hm HR' hk HB hbase (fun w1 hr => h w1 (Kd.S_erase (gap_tag hr)))
/-- What lies behind the row's length is written: the row stands. -/
theorem R_tail {α : Type} {d : Kd α} {e : Nat} {w : World} {base : Nat} {ok : Nat → Prop} {g n c : Nat} {xs : List α} (h : d.R e w base ok (.slice (some ⟨g, 0, none⟩) n c) xs) (seg : List Value) (j : Nat) (hj : n * d.sz ≤ j) (hfit : j + seg.length ≤ c * d.sz) :
    d.R e (w.setCells g j seg) base ok (.slice (some ⟨g, 0, none⟩) n c) xs ∧ w.grownBy (w.setCells g j seg) (some g) := by
  obtain ⟨hn, hnc, _⟩ := Kd.R_reads' h
  obtain ⟨hok, inner, hown, hr⟩ := h
  rcases hown.2 with ⟨hv, _⟩ | ⟨g', cap', cur, hv, hb, hh, h4, hcm, hcs, htake⟩
  · cases hv
  injection hv with ha _ hc
  injection ha with ha
  injection ha with hg
  subst hg; subst hc
  obtain ⟨cur', h3, h5, h6⟩ := setCells_row seg j w cur hh (by omega)
  obtain ⟨s1, s2, s3, s4⟩ := setCells_same g seg j w
  have hfar : ∀ k', k' ≠ g → (w.setCells g j seg).heap[k']? = w.heap[k']? := fun k' hk' => setCells_far seg _ k' hk'
  have hgo : ∀ m, some g = (Value.slice (some ⟨g, 0, none⟩) m c).ownBlock := fun m => by simp [Value.ownBlock]
  refine ⟨⟨hok, inner, ⟨hown.1, .inr ⟨g, c, cur', by rw [← hn], hb, h3, h4, hcm, by rw [h5, hcs], ?_⟩⟩, hr.imp_ fun p q hp => ?_⟩, ⟨s1, s2, s3, by rw [s4]; exact Nat.le_refl _, fun k' _ hk' => hfar k' (fun he => hk' (by rw [he]))⟩⟩
  · rw [h6, ← htake, List.append_assoc, List.take_append_of_le_length, List.take_take]
    · rw [Nat.min_eq_left (by rw [← hn]; exact hj)]
    · have : cur.toList.length = c * d.sz := by rw [Array.length_toList, hcs]
      have hn2 : xs.length * d.sz = n * d.sz := by rw [hn]
      rw [List.length_take, hn2]; omega
  · exact d.M_move (fun k' hk' => hfar k' (fun he => hk'.2 (by rw [← hgo, he]))) hp
theorem S_tail {α : Type} {d : Kd α} {e : Nat} {w : World} {base : Nat} {ok : Nat → Prop} {g n c : Nat} {xs : List α} (h : Kd.S d e w base ok (.slice (some ⟨g, 0, none⟩) n c) xs) (seg : List Value) (j : Nat) (hj : n * d.sz ≤ j) (hfit : j + seg.length ≤ c * d.sz) :
    Kd.S d e (w.setCells g j seg) base ok (.slice (some ⟨g, 0, none⟩) n c) xs ∧ w.grownBy (w.setCells g j seg) (some g) := by
  obtain ⟨f, h⟩ := h
  have := R_tail (d := Kd.tag f d) h seg j hj hfit
  exact ⟨⟨f, this.1⟩, this.2⟩
/-- clear(s) of one element of a struct type. -/
theorem run_clear_one {P : Program} (w : World) (t e ty : TypeId) (z : Value) (ht : P.underlying t = some (.slice e)) (hv : ∀ w, (zeroValue e).run P w = .ok z w) (h1 : ∀ v ∈ z.cells.toList, v.oneCell' = true) (hz : 0 < z.cells.size) (b o c : Nat)
    (hc : ∀ j, j < z.cells.size → (w.cell? ⟨b, o + j, none⟩).isSome = true) (hf : ∀ j, j < z.cells.size → w.frozen? ⟨b, o + j, none⟩ = false) :
    (Builtin.clear_ #[t] ty #[.slice (some ⟨b, o, none⟩) 1 c]).run P w = .ok (.tuple #[]) (w.setCells b o z.cells.toList) := by
  have hzc : (Builtin.zeroCells z.cells 1).toList = z.cells.toList := by
    simp only [Builtin.zeroCells]
    apply List.ext_getElem
    · simp
    · intro i h1 h2
      have : i < z.cells.size := by simpa using h2
      simp [Nat.mod_eq_of_lt this, getElem!_pos z.cells i this]
  have hst := run_storeCells_cells (P := P) b o z.cells.toList 0 w (by simpa using hc) (by simpa using hf) h1
  simp only [Nat.add_zero] at hst
  simp [Builtin.clear_, run_underlying ht, hv, hzc, hst]
theorem zero_run {P : Program} {e : TypeId} {z : Value} {n m : Nat} (h : (P.info? e).map (fun i => (i.zero, i.size, i.bytes)) = some (some z, n, m)) (w : World) : (zeroValue e).run P w = .ok z w := by
  obtain ⟨i, hi, hq⟩ := Option.map_eq_some_iff.1 h
  simp only [Prod.mk.injEq] at hq
  simp [zeroValue, typeInfo, hi, hq.1]
theorem sizeInfo {P : Program} {e : TypeId} {z : Option Value} {n m : Nat} (h : (P.info? e).map (fun i => (i.zero, i.size, i.bytes)) = some (z, n, m)) : (P.info? e).map (·.size) = some n := by
  obtain ⟨i, hi, hq⟩ := Option.map_eq_some_iff.1 h
  simp only [Prod.mk.injEq] at hq
  rw [hi, Option.map_some, hq.2.1]
theorem S_cells {α : Type} {d : Kd α} {e : Nat} {w : World} {base : Nat} {ok : Nat → Prop} {g n c : Nat} {xs : List α} (h : Kd.S d e w base ok (.slice (some ⟨g, 0, none⟩) n c) xs) (j : Nat) (hj : j < c * d.sz) : (w.cell? ⟨g, j, none⟩).isSome = true ∧ w.frozen? ⟨g, j, none⟩ = false := by
  obtain ⟨inner, hown⟩ := Kd.S_own h
  rcases hown.2 with ⟨hv, _⟩ | ⟨g', cap', cur, hv, hb, hh, h4, hcm, hcs, htake⟩
  · cases hv
  injection hv with ha _ hc
  injection ha with ha
  injection ha with hg
  subst hg; subst hc
  exact ⟨by rw [blk_cell hh j, Array.getElem?_eq_getElem (by rw [hcs]; exact hj)]; rfl, blk_frozen hh j⟩
/- What the sources do, by hand. -/
set_option maxHeartbeats 1000000 in
set_option maxRecDepth 100000 in
theorem copyBytes_c (A : Option Addr) (c : Nat) (l : List Int) (w : World) (hr : Kd.C (Kd.int .u8) w A l.length l) (hl : l.length ≤ 1000000000000) :
    Calls Try.prog 42 #[.slice A l.length c] w fun e w' => ∃ v, e = .returned v ∧ Kd.R (Kd.int .u8) 5 w' w.heap.size (fun _ => True) v l ∧ Below w.heap.size w w' := by
  have HC := Aside0.mk hr
  have HL := Aside0.mk hl
  clear hr hl
  go_enter Try.func42, Try.ntmps42
  go_wp2_with ((with_reducible refine gate_builtin (b := .append) (xs := #[.const (.slice none 0 0), .tmp 3]) rfl ?_); at_builtin; refine Kd.R_append_rows (Kd.int .u8) (w0 := w) w.heap.size rfl (.const (.slice none 0 0)) (.tmp 3) 30 5 (.int .u8 0) 1 rfl Try.underlying30 info5 rfl (by decide) (by omega) (.slice none 0 0) [] l A l.length c (fun _ => True) (fun _ => False) rfl rfl (Kd.R_nil _ _ _ _ _) HC.out (fun _ _ h => h) (fun _ h => h.elim) (fun _ _ => trivial) (Below.refl _ _) (Nat.le_refl _) ?aL ?_; (case aL => (have := HL.out; simp only [List.length_nil]; omega)); intro v1 w1 hr1 hb1 hg1 _)
  go_ret
  exact ⟨v1, rfl, hr1, hb1⟩
def zp : Value := .agg #[.int .i64 0, .slice none 0 0]
set_option maxHeartbeats 4000000 in
set_option maxRecDepth 100000 in
/-- slices.Delete of one page: the page's own blocks are lent out (oki). -/
theorem delete_c (base g n c k : Nat) (W : World) (ok oki : Nat → Prop) (cc : List Value) (xs : List S58) (HO : Kd.H k58 58 W base ok (.slice (some ⟨g, 0, none⟩) n c) xs (k : Int) oki cc) (hk : k < n) (hn : n ≤ 1000000) (hnc : n ≤ c) (hcm : c ≤ 9223372036854775807) (hbase : base ≤ W.heap.size) (hg : base ≤ g) :
    Calls Try.prog 43 #[.slice (some ⟨g, 0, none⟩) n c, .int .i64 (k : Int), .int .i64 ((k : Int) + 1)] W fun e w' => e = .returned (.slice (some ⟨g, 0, none⟩) (n - 1) c) ∧ Kd.S k58 58 w' base (fun q => ok q ∧ ¬ oki q) (.slice (some ⟨g, 0, none⟩) (n - 1) c) (xs.eraseIdx k) ∧ W.grownBy w' (some g) := by
  have hu := Try.underlying58
  have hu2 := Try.underlying22
  have HX := Aside0.mk HO
  have HG := Aside0.mk hg
  have HS := Aside0.mk hbase
  clear HO hg hbase
  have q1 : ((k : Int) == (k : Int) + 1) = false := by rw [beq_eq_false_iff_ne]; omega
  have p1 : (0 ≤ (k : Int)) = True := eq_true (by omega)
  have q3 : (0 ≤ (k : Int) + 1 ∧ (k : Int) + 1 ≤ (n : Int)) = True := eq_true (by omega)
  have hic : k ≤ c := by omega
  have hjc : k + 1 ≤ c := by omega
  obtain ⟨A, hA⟩ : ∃ A : Addr, (if c = k + 1 then (⟨g, 0, none⟩ : Addr) else ⟨g, (k + 1) * 2, none⟩) = A := ⟨_, rfl⟩
  have hA1 : (if c = k + 1 then some (⟨g, 0, none⟩ : Addr) else some ⟨g, (k + 1) * 2, none⟩) = some A := by rw [← hA]; split <;> rfl
  have HA := Aside0.mk (show some A = if c = k + 1 then some ⟨g, 0, none⟩ else (some (⟨g, 0, none⟩ : Addr)).map (·.add ((k + 1) * k58.sz)) from by rw [← hA1]; split <;> simp [Addr.add, show k58.sz = 2 from rfl])
  clear hA
  go_enter Try.func43, Try.ntmps43
  go_wp2
  go_region_law (refine H_delete_step (w0 := W) (P := Try.prog) k58 base rfl (.tmp 22) (.tmp 25) 22 58 rfl Try.underlying22 (sizeInfo info58) (k := k) (A := some A) (n := n) (c := c) (m := n - (k + 1)) (c2 := c - (k + 1)) rfl rfl HA.out rfl (Kd.H_drew HX.out) hk (Below.refl _ _).drew HS.out ?_; intro w1 hr1 hb1 hg1; have HR := Aside0.mk hr1; have HW := Aside0.mk hg1; clear hr1 hb1 hg1)
  have hcl : ∀ ty, (Builtin.clear_ #[22] ty #[.slice (some ⟨g, (n - 1) * 2, none⟩) 1 (c - (n - 1))]).run Try.prog w1 = .ok (.tuple #[]) (w1.setCells g ((n - 1) * 2) [.int .i64 0, .slice none 0 0]) :=
    fun ty => run_clear_one w1 _ _ ty zp hu2 (zero_run info58) (by intro v hv; simp [zp, Value.cells] at hv; rcases hv with rfl | rfl <;> rfl) (by decide) g ((n - 1) * 2) _ (fun j hj => (S_cells HR.out _ (by have : j < 2 := hj; show _ < c * 2; omega)).1) (fun j hj => (S_cells HR.out _ (by have : j < 2 := hj; show _ < c * 2; omega)).2)
  have g1 : n - 1 ≤ n := by omega
  have g2 : n ≤ c := hnc
  have g3 : ¬ (c = n - 1) := by omega
  have g4 : n - (n - 1) = 1 := by omega
  have HT := Aside0.mk (S_tail HR.out [.int .i64 0, .slice none 0 0] ((n - 1) * 2) (Nat.le_refl _) (by show (n - 1) * 2 + 2 ≤ c * 2; omega))
  go_wp2
  go_ret
  exact ⟨rfl, HT.out.1, ⟨HT.out.2.os.trans HW.out.os, HT.out.2.tape.trans HW.out.tape, HT.out.2.output.trans HW.out.output, Nat.le_trans HW.out.size HT.out.2.size, fun q hq hne => (HT.out.2.block q (Nat.lt_of_lt_of_le hq HW.out.size) hne).trans (HW.out.block q hq hne)⟩⟩

/-! ### impl_copySource: function 33 -/
/-- A source at block g: its cells, and its pages, of the call's own (from lo on, among ok). -/
def SSt (lo : Nat) (ok : Nat → Prop) (W : World) (g : Nat) (a : Int) (l : List S58) (f : Int) : Prop :=
  ∃ A c, W.heap[g]? = some (.cells #[.int .i64 a, .slice A l.length c, .int .i64 f] 24 (0, 0)) ∧ Kd.S k58 58 W lo ok (.slice A l.length c) l
section
variable {lo : Nat} {ok ok' : Nat → Prop} {W W1 : World} {g : Nat} {a f : Int} {l : List S58}
theorem SSt.step (h : SSt lo ok W g a l f) (hm : ∀ k, (ok k ∨ k = g) → k < W.heap.size → W1.heap[k]? = W.heap[k]?) : SSt lo ok W1 g a l f := by
  obtain ⟨A, c, hb, hS⟩ := h
  exact ⟨A, c, (hm g (.inr rfl) (blk_lt hb)).trans hb, Kd.S_step hS (fun k hk hl => hm k (.inl hk) hl)⟩
theorem SSt.below (h : SSt lo ok W g a l f) (hw : Below W.heap.size W W1) : SSt lo ok W1 g a l f := h.step (fun k _ hk => hw.block k hk)
theorem SSt.alloc (h : SSt lo ok W g a l f) (o : Obj) : SSt lo ok (W.alloc o) g a l f := h.below (below_alloc (Below.refl _ _) o)
theorem SSt.drewN (h : SSt lo ok W g a l f) (m : Nat) : SSt lo ok (W.drewN m) g a l f := h.below (pw_below_drewN (Below.refl _ _) m)
theorem SSt.drew (h : SSt lo ok W g a l f) : SSt lo ok W.drew g a l f := h.below (below_drew (Below.refl _ _))
theorem SSt.mono (h : SSt lo ok W g a l f) (hok : ∀ k, ok k → ok' k) : SSt lo ok' W g a l f := by
  obtain ⟨A, c, hb, hS⟩ := h
  exact ⟨A, c, hb, Kd.S_mono hS hok⟩
theorem SSt.lt (h : SSt lo ok W g a l f) : g < W.heap.size := by
  obtain ⟨A, c, hb, hS⟩ := h
  exact blk_lt hb
/-- Its blocks are bounded. -/
theorem SSt.bound (h : SSt lo ok W g a l f) : SSt lo (fun k => ok k ∧ k < W.heap.size) W g a l f := by
  obtain ⟨A, c, hb, hS⟩ := h
  exact ⟨A, c, hb, Kd.S_mono (Kd.S_bound hS) (fun k hk => ⟨hk.1, hk.2.2.1⟩)⟩
/-- A store into a block of another type. -/
theorem SSt.other (h : SSt lo ok W g a l f) {g' t : Nat} {cells : Array Value} (hb' : W.heap[g']? = some (.cells cells t (0, 0))) (ht : t ≠ 58 ∧ t ≠ 5) (hg : g ≠ g') (j : Nat) (u : Value) : SSt lo ok (W.setCell ⟨g', j, none⟩ u) g a l f := by
  obtain ⟨A, c, hb, hS⟩ := h
  exact ⟨A, c, (Below.heap_setCell W _ u g hg).trans hb, Kd.S_set hS hb' (fun q hq => by
    have : q = 58 ∨ q = 5 := by simpa [k58, Kd.iso, Kd.pair, Kd.slice, Kd.int, Kd.scalar] using hq
    rcases this with rfl | rfl
    · exact fun he => ht.1 he.symm
    · exact fun he => ht.2 he.symm) j u⟩
theorem SSt.set_0 (h : SSt lo ok W g a l f) (x : Int) : SSt lo ok (W.setCell ⟨g, 0, none⟩ (.int .i64 x)) g x l f := by
  obtain ⟨A, c, hb, hS⟩ := h
  have h1 := blk_set hb 0 (.int .i64 x)
  exact ⟨A, c, h1, Kd.S_set hS hb (by decide) 0 _⟩
theorem SSt.set_2 (h : SSt lo ok W g a l f) (x : Int) : SSt lo ok (W.setCell ⟨g, 2, none⟩ (.int .i64 x)) g a l x := by
  obtain ⟨A, c, hb, hS⟩ := h
  have h1 := blk_set hb 2 (.int .i64 x)
  exact ⟨A, c, h1, Kd.S_set hS hb (by decide) 2 _⟩
theorem SSt.cells (h : SSt lo ok W g a l f) : ∃ A c, W.heap[g]? = some (.cells #[.int .i64 a, .slice A l.length c, .int .i64 f] 24 (0, 0)) ∧ W.cell? ⟨g, 0, none⟩ = some (.int .i64 a) ∧ W.cell? ⟨g, 1, none⟩ = some (.slice A l.length c) ∧ W.cell? ⟨g, 2, none⟩ = some (.int .i64 f) ∧ (∀ j, W.frozen? ⟨g, j, none⟩ = false) ∧ Kd.S k58 58 W lo ok (.slice A l.length c) l := by
  obtain ⟨A, c, hb, hS⟩ := h
  exact ⟨A, c, hb, (blk_cell hb 0).trans rfl, (blk_cell hb 1).trans rfl, (blk_cell hb 2).trans rfl, blk_frozen hb, hS⟩
/-- The row of pages has been written, and its header stored. -/
theorem SSt.grown {A : Option Addr} {c n : Nat} (hb : W.heap[g]? = some (.cells #[.int .i64 a, .slice A n c, .int .i64 f] 24 (0, 0))) {v1 : Value} {w1 : World} {l' : List S58} {row : Option Nat} (hr : Kd.S k58 58 w1 lo ok v1 l') (hg1 : W.grownBy w1 row) (hne : some g ≠ row) :
    w1.cell? ⟨g, 0, none⟩ = some (.int .i64 a) ∧ w1.cell? ⟨g, 1, none⟩ = some (.slice A n c) ∧ w1.cell? ⟨g, 2, none⟩ = some (.int .i64 f) ∧ (∀ j, w1.frozen? ⟨g, j, none⟩ = false) ∧ SSt lo ok (w1.setCell ⟨g, 1, none⟩ v1) g a l' f := by
  have hb' := blk_grown hb hg1 hne
  obtain ⟨A1, c1, rfl⟩ := Kd.S_slice hr
  have hs := blk_set hb' 1 (.slice A1 l'.length c1)
  exact ⟨(blk_cell hb' 0).trans rfl, (blk_cell hb' 1).trans rfl, (blk_cell hb' 2).trans rfl, blk_frozen hb', A1, c1, hs, Kd.S_set hr hb' (by decide) 1 _⟩
end
theorem page_append {ops : Array Oper} {o : Oper} {a : Act} {Q : Exit → Act → World → Prop} {Kc : Act → World → Prop} {w0 W Wg : World} (lo : Nat) (ok okp : Nat → Prop) (hw : Region.wanted o (yielded ops a.tmps) = true) (s x : Operand) (v v6 : Value) (l : List S58) (p : S58)
    (ho : o.op = .call { callee := .builtin .append, args := #[s, x], argTypes := #[22, 22] }) (hWg : Wg = W.alloc (.cells #[.int .i64 p.f0, v6] 58)) (hs : a.eval s = v) (hx : a.eval x = .slice (some ⟨W.heap.size, 0, none⟩) 1 1)
    (hp : Kd.R (Kd.int .u8) 5 W lo okp v6 p.f1) (hS : Kd.S k58 58 W lo (fun k => ok k ∧ ¬ okp k) v l) (hokp : ∀ k, okp k → ok k ∧ some k ≠ v.ownBlock) (hfresh : ∀ k, W.heap.size ≤ k → ok k) (HB : Below lo w0 W) (hlo : lo ≤ W.heap.size) (hl : l.length ≤ 1000000)
    (h : ∀ v1 w1, Kd.S k58 58 w1 lo ok v1 (l ++ [p]) → Below lo w0 w1 → W.grownBy w1 v.ownBlock → Kc (a.put o.dst v1) w1) :
    if Region.wanted o (yielded ops a.tmps) = true then Oper.wp Try.prog o a Wg Kc Q else Kc (a.put o.dst undef) Wg := by
  subst hWg
  exact Kd.S_append_step k58 lo hw s x 22 58 _ 32 ho Try.underlying22 info58 rfl (by decide) (by decide) v l p [.int .i64 p.f0, v6] ok okp hs hx (k58_mkM _ _ _ _ hp) hokp hfresh hS HB hlo (by omega) (fun v1 w1 h1 h2 h3 _ => h v1 w1 h1 h2 h3)
theorem rd_at_P {l : List S58} {i : Nat} (h : i < l.length) : rd_T58 l (i : Int) = l[i] := by
  unfold rd_T58
  rw [show (i : Int).toNat = i from rfl, List.getD_eq_getElem?_getD, List.getElem?_eq_getElem h]
  rfl
def zSrc : Obj := .cells #[.int .i64 0, .slice none 0 0, .int .i64 0] 24
theorem S_fill {W : World} {lo : Nat} {ok : Nat → Prop} {v : Value} {l : List S58} {g : Nat} {cells : Array Value} (hS : Kd.S k58 58 W lo ok v l) (hz : W.heap[g]? = some (.cells cells 24 (0, 0))) (u0 u1 u2 : Value) :
    Kd.S k58 58 (((W.setCell ⟨g, 0, none⟩ u0).setCell ⟨g, 1, none⟩ u1).setCell ⟨g, 2, none⟩ u2) lo ok v l :=
  Kd.S_set (Kd.S_set (Kd.S_set hS hz (by decide) 0 u0) (blk_set hz 0 u0) (by decide) 1 u1) (blk_set (blk_set hz 0 u0) 1 u1) (by decide) 2 u2
set_option maxHeartbeats 4000000 in
set_option maxRecDepth 100000 in
theorem copySource_c (a f : Int) (A : Option Addr) (c : Nat) (l : List S58) (w : World) (hr : Kd.C k58 w A l.length l) (hl : l.length ≤ 1000000) (hd : ∀ x ∈ l, x.f1.length ≤ 1000000000000) :
    Calls Try.prog 33 #[.agg #[.int .i64 a, .slice A l.length c, .int .i64 f]] w fun e w' => ∃ v, e = .returned (.agg #[.int .i64 a, v, .int .i64 f]) ∧ Kd.S k58 58 w' w.heap.size (fun _ => True) v l ∧ Below w.heap.size w w' := by
  have hu := Try.underlying58
  have hu2 := Try.underlying24
  have HR := Aside0.mk hr
  have HL := Aside0.mk hl
  have HD := Aside0.mk hd
  clear hr hl hd
  go_enter Try.func33, Try.ntmps33
  go_wp2
  have h1 := heap_alloc_new w (.cells #[.int .i64 a, .slice A l.length c, .int .i64 f] 24)
  generalize hw1 : w.alloc (.cells #[.int .i64 a, .slice A l.length c, .int .i64 f] 24) = w1 at h1 ⊢
  have hs1 : w1.heap.size = w.heap.size + 1 := by rw [← hw1, World.size_alloc]
  have h2 := heap_alloc_new w1 zSrc
  have HB0 : Below w.heap.size w ((w1.alloc zSrc).alloc (.cells #[.int .i64 a, .slice none 0 0, .int .i64 f] 24)) := by rw [← hw1]; exact below_alloc (below_alloc (below_alloc (Below.refl _ _) _) _) _
  have h3 := heap_alloc_new (w1.alloc zSrc) (.cells #[.int .i64 a, .slice none 0 0, .int .i64 f] 24)
  have h4 : ((w1.alloc zSrc).alloc (.cells #[.int .i64 a, .slice none 0 0, .int .i64 f] 24)).heap[w.heap.size + 1]? = some zSrc := by
    rw [← hs1]
    exact ((below_alloc (Below.refl (w1.alloc zSrc).heap.size _) _).block _ (by rw [World.size_alloc]; omega)).trans h2
  rw [World.size_alloc, hs1] at h3
  change Code.wp _ _ _ _ ((w1.alloc zSrc).alloc (.cells #[.int .i64 a, .slice none 0 0, .int .i64 f] 24))
  generalize (w1.alloc zSrc).alloc (.cells #[.int .i64 a, .slice none 0 0, .int .i64 f] 24) = W0 at HB0 h3 h4 ⊢
  have HZ := Aside0.mk h4
  have HB := Aside0.mk HB0
  have HS := Aside0.mk (show SSt w.heap.size (fun _ => True) W0 (w.heap.size + 1 + 1) a (l.take 0) f from ⟨none, 0, h3, Kd.S_nil _ _ _ _ _⟩)
  have HN := Aside0.mk (show w.heap.size + 1 ≠ w.heap.size + 1 + 1 ∧ w.heap.size ≤ w.heap.size + 1 ∧ w.heap.size ≤ w.heap.size + 1 + 1 by omega)
  clear h1 h2 h3 h4 hs1 hw1 HB0
  generalize w.heap.size + 1 + 1 = g3 at HS HN ⊢
  generalize w.heap.size + 1 = g2 at HZ HN ⊢
  generalize hlo : w.heap.size = lo at HS HB HN ⊢
  go_loopg [14] l.length (fun kq v14 wr => ∃ (i : Nat), v14 = .int .i64 (i : Int) ∧ Aside0 (i + kq = l.length) ∧ Aside0 (SSt lo (fun _ => True) wr g3 a (l.take i) f) ∧ Aside0 (wr.heap[g2]? = some zSrc) ∧ Aside0 (Below lo w wr))
  case atStart => exact ⟨0, rfl, ⟨by omega⟩, HS, HZ, HB⟩
  case round =>
    clear HS HZ HB
    obtain ⟨i, rfl, HI, HS, HZ, HB⟩ := hrel
    obtain ⟨gk_1, hgk⟩ : ∃ q, l.length - (i + 1) = q := ⟨_, rfl⟩
    have HK1 := Aside0.mk hgk
    clear hgk
    by_cases ci : i < l.length
    · have q1 : ((i : Int) < (l.length : Int)) = True := eq_true (by omega)
      have p1 : (0 ≤ (i : Int)) = True := eq_true (by omega)
      have hw : wrap64 ((i : Int) + 1) = ((i + 1 : Nat) : Int) := by have := HL.out; unfold wrap64; omega
      subst hlo
      obtain ⟨ad, A1, c1, hA, h0, h1, h2, h3⟩ := at_T58 (Kd.C_below HR.out HB.out) (i : Int) (by omega) (by omega)
      rw [rd_at_P ci] at h0 h1 h2 h3
      subst hA
      rw [Int.toNat_natCast] at h0 h1
      have HC := Aside0.mk h3
      clear h2 h3
      go_upto_region 5 with fail
      have HP := Aside0.mk (heap_alloc_new wr (.cells #[.int .i64 l[i].f0, .slice A1 l[i].f1.length c1] 58))
      have HS5 := Aside0.mk (HS.out.alloc (.cells #[.int .i64 l[i].f0, .slice A1 l[i].f1.length c1] 58))
      have HB5 := Aside0.mk (below_alloc HB.out (.cells #[.int .i64 l[i].f0, .slice A1 l[i].f1.length c1] 58))
      have HC5 := Aside0.mk (Kd.C_alloc HC.out (.cells #[.int .i64 l[i].f0, .slice A1 l[i].f1.length c1] 58))
      have HZ5 := Aside0.mk (((below_alloc (Below.refl wr.heap.size wr) (.cells #[.int .i64 l[i].f0, .slice A1 l[i].f1.length c1] 58)).block _ (blk_lt HZ.out)).trans HZ.out)
      clear h0 h1 HS HB HC HZ
      generalize wr.alloc (.cells #[.int .i64 l[i].f0, .slice A1 l[i].f1.length c1] 58) = w5 at HP HS5 HB5 HC5 HZ5 ⊢
      generalize wr.heap.size = gp at HP ⊢
      have HT := Aside0.mk (show (l.take i).length = i ∧ l.take (i + 1) = l.take i ++ [l[i]] from ⟨by rw [List.length_take]; omega, (List.take_append_getElem ci).symm⟩)
      generalize l.take i = li at HS5 HT
      obtain ⟨A2, c2, hb, k0, k1, k2, kf, hS⟩ := HS5.out.cells
      have hx0 := (blk_cell HP.out 0).trans rfl
      have hx1 := (blk_cell HP.out 1).trans rfl
      have HSo := Aside0.mk hS
      have Hb := Aside0.mk hb
      have HI1 := Aside0.mk (show li.length ≤ 1000000 by have := HT.out.1; have := HL.out; omega)
      clear hb k0 k2 kf hS
      have HLx := Aside0.mk (HD.out _ (List.getElem_mem ci))
      generalize l[i] = x at HP HC5 HLx HT hx0 hx1 ⊢
      go_region_law (first | fail | (go_simp; go_at_call 42; refine (copyBytes_c A1 c1 x.f1 _ (Kd.C_drew HC5.out) HLx.out).mono ?_; rintro e w6 ⟨v6, rfl, hR6, hb6⟩; obtain ⟨A6, c6, e6⟩ := Kd.R_slice hR6; subst e6; have HR6 := Aside0.mk hR6; have HB6 := Aside0.mk (below_step (show Below w5.heap.size w5 w5.drew from below_drew (Below.refl _ _)) hb6); have m1 := pw_cell_below HB6.out k1; have m2 := pw_cell_below HB6.out hx0; have m3 := pw_cell_below HB6.out hx1; have m4 := pw_cell_below (below_alloc (Below.refl w6.heap.size w6) (.cells #[.int .i64 x.f0, .slice A6 x.f1.length c6] 58)) m1; clear hR6 hb6) | (refine page_append (w0 := w) (W := w6) w.heap.size (fun _ => True) (fun k => w5.heap.size ≤ k) rfl (.tmp 19) (.tmp 26) (.slice A2 li.length c2) (.slice A6 x.f1.length c6) li x rfl rfl rfl rfl (Kd.R_lower (Kd.R_mono (Kd.R_bound HR6.out) (fun k hk => hk.2.1)) HB5.out.size) (Kd.S_mono (Kd.S_old HSo.out HB6.out) (fun k hk => ⟨trivial, Nat.not_le.2 hk.2⟩)) (fun k hk => ⟨trivial, fun he => Nat.not_le.2 (Kd.S_lt HSo.out k he.symm) hk⟩) (fun _ _ => trivial) (below_step HB5.out HB6.out) (Nat.le_trans HB5.out.size HB6.out.size) HI1.out ?_; intro v1 w1 hr1 hb1 hg1; obtain ⟨n0, n1, n2, nf, nS⟩ := SSt.grown ((HB6.out.block _ (blk_lt Hb.out)).trans Hb.out) hr1 hg1 (Kd.S_ne HSo.out Hb.out (by decide)); have y1 := nf 1; obtain ⟨A7, c7, e7⟩ := Kd.S_slice hr1; subst e7; have HS1 := Aside0.mk nS; have HB1 := Aside0.mk hb1; have HG1 := Aside0.mk hg1; clear hr1 hb1 hg1 nS nf n0 n2))
      all_goals (go_wp2; go_roundg gk_1; (case measure => (have := HK1.out; have := HI.out; omega)); (case rel => exact ⟨i + 1, (by first | rfl | (simp only [hw]) | (simp; done)), ⟨by have := HI.out; have := HK1.out; omega⟩, ⟨by have hh := HS1.out; rw [HT.out.2]; rw [show (li ++ [x]).length = li.length + 1 from by rw [List.length_append, List.length_singleton]] at hh; exact hh⟩, ⟨by have hz := (HG1.out.block g2 (blk_lt ((HB6.out.block _ (blk_lt HZ5.out)).trans HZ5.out)) (Kd.S_ne HSo.out HZ5.out (by decide))).trans ((HB6.out.block _ (blk_lt HZ5.out)).trans HZ5.out); exact (Below.heap_setCell _ _ _ _ HN.out.1).trans hz⟩, ⟨below_set HB1.out HN.out.2.2⟩⟩))
    · have hi : i = l.length := by have := HI.out; omega
      have q1 : ((i : Int) < (l.length : Int)) = False := eq_false (by omega)
      have HS5 := HS
      rw [show l.take i = l from by rw [hi, List.take_length]] at HS5
      clear HS
      obtain ⟨A2, c2, hb, k0, k1, k2, kf, hS⟩ := HS5.out.cells
      have z0 := (blk_cell HZ.out 0).trans rfl
      have z1 := (blk_cell HZ.out 1).trans rfl
      have z2 := (blk_cell HZ.out 2).trans rfl
      have f0 := blk_frozen HZ.out 0
      have f1 := blk_frozen HZ.out 1
      have f2 := blk_frozen HZ.out 2
      have HSo := Aside0.mk hS
      clear hb kf hS
      go_wp2
      refine bodyPost_ret (results_cell_row rfl _ _ g2 24 #[.int .i64 a, .slice A2 l.length c2, .int .i64 f] (0, 0) _ rfl (by refine blk_put (cs := #[.int .i64 a, .slice A2 l.length c2, .int .i64 0]) ?_ 2 _ rfl; refine blk_put (cs := #[.int .i64 a, .slice none 0 0, .int .i64 0]) ?_ 1 _ rfl; refine blk_put (cs := #[.int .i64 0, .slice none 0 0, .int .i64 0]) ?_ 0 _ rfl; exact HZ.out) Try.underlying24 rfl (by kernel_rfl)) rfl ?_
      exact ⟨_, rfl, by subst hlo; exact S_fill HSo.out HZ.out _ _ _, by subst hlo; exact below_set (below_set (below_set HB.out HN.out.2.1) HN.out.2.1) HN.out.2.1⟩

end Go.Proofs.Ytbjkaapkmemojaa.PFnSource
