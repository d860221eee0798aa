-- Written by a program of this session, out of the translation.
import Derived.Test.YtbjkaapkmemojaaPFnSourcex0
import Derived.Test.YtbjkaapkmemojaaPFnSourcex1
namespace Go.Proofs.Ytbjkaapkmemojaa.PFnSource
open Go.RowKit Go.Proofs.YtbjkaapkmemojaaW.PrintWords Go.Proofs.YtbjkaapkmemojaaW.PrintLast Go.Proofs.YtbjkaapkmemojaaW.PrintMore
attribute [local go_sem] max2_int min2_int max_two min_two max_three min_three max_four min_four   -- for this text's walks alone
set_option linter.unusedVariables false
set_option linter.unusedSimpArgs false

/-! ### impl_Source_fetch: function 34 -/
theorem page_append2 {ops : Array Oper} {o : Oper} {a : Act} {Q : Exit → Act → World → Prop} {Kc : Act → World → Prop} {w0 W : World} (lo : Nat) (ok okp : Nat → Prop) (hw : Region.wanted o (yielded ops a.tmps) = true) (s x : Operand) (v v6 : Value) (l : List S58) (p : S58) (ga : Nat) (c' : Nat)
    (ho : o.op = .call { callee := .builtin .append, args := #[s, x], argTypes := #[22, 22] }) (hs : a.eval s = v) (hx : a.eval x = .slice (some ⟨ga, 0, none⟩) 1 c') (hc : W.heap[ga]? = some (.cells #[.int .i64 p.f0, v6] 58 (0, 0)))
    (hp : Kd.R (Kd.int .u8) 5 W lo okp v6 p.f1) (hS : Kd.S k58 58 W lo (fun k => ok k ∧ ¬ okp k) v l) (hokp : ∀ k, okp k → ok k ∧ some k ≠ v.ownBlock) (hfresh : ∀ k, W.heap.size ≤ k → ok k) (HB : Below lo w0 W) (hlo : lo ≤ W.heap.size) (hl : l.length ≤ 1000000)
    (h : ∀ v1 w1, Kd.S k58 58 w1 lo ok v1 (l ++ [p]) → Below lo w0 w1 → W.grownBy w1 v.ownBlock → Kc (a.put o.dst v1) w1) :
    if Region.wanted o (yielded ops a.tmps) = true then Oper.wp Try.prog o a W Kc Q else Kc (a.put o.dst undef) W := by
  obtain ⟨f, hf, hR⟩ := Kd.S_tag hS l.length okp (fun _ hk h2 => h2.2 hk)
  refine Kd.R_append_rows_step (Kd.tag f k58) (Rr := fun y cs => y = (p, l.length) ∧ cs = [.int .i64 p.f0, v6]) lo hw s x 22 58 _ 32 ho Try.underlying22 info58 rfl (show 0 < k58.sz by decide) (by decide) v l.zipIdx [(p, l.length)] (some ⟨ga, 0, none⟩) 1 c' ok okp hs hx (Kd.R_mono hR (fun _ hk => hk.1)) ⟨rfl, by decide, fun _ => ⟨_, rfl, fun j q hj => ?_⟩⟩ ?_ hokp hfresh HB hlo (by rw [List.length_zipIdx]; omega) ?_
  · cases j with
    | zero =>
      simp only [List.getElem?_cons_zero, Option.some.injEq] at hj
      subst hj
      refine ⟨[.int .i64 p.f0, v6], rfl, ⟨rfl, rfl⟩, fun i u hu => ?_⟩
      have hi : i = 0 ∨ i = 1 := by
        have := (List.getElem?_eq_some_iff.1 hu).1
        simp at this
        omega
      rcases hi with rfl | rfl
      · simp at hu
        subst hu
        exact (blk_cell hc 0).trans rfl
      · simp at hu
        subst hu
        exact (blk_cell hc 1).trans rfl
    | succ j => simp at hj
  · rintro y cs ⟨rfl, rfl⟩
    exact k58.M_mono (fun k hk => ⟨hk, hf k hk⟩) (k58_mkM _ _ _ _ hp)
  · intro v1 w1 hr hb1 hg1 _
    rw [← Kd.zip_snoc] at hr
    exact h v1 w1 ⟨f, hr⟩ hb1 hg1
theorem delete_c0 (base g n c : Nat) (W : World) (ok oki : Nat → Prop) (cc : List Value) (xs : List S58) (HO : Kd.H k58 58 W base ok (.slice (some ⟨g, 0, none⟩) n c) xs 0 oki cc) (hk : 0 < n) (hn : n ≤ 1000000) (hnc : n ≤ c) (hcm : c ≤ 9223372036854775807) (hbase : base ≤ W.heap.size) (hg : base ≤ g) :
    Calls Try.prog 43 #[.slice (some ⟨g, 0, none⟩) n c, .int .i64 0, .int .i64 1] W fun e w' => e = .returned (.slice (some ⟨g, 0, none⟩) (n - 1) c) ∧ Kd.S k58 58 w' base (fun q => ok q ∧ ¬ oki q) (.slice (some ⟨g, 0, none⟩) (n - 1) c) (xs.eraseIdx 0) ∧ W.grownBy w' (some g) :=
  delete_c base g n c 0 W ok oki cc xs HO hk hn hnc hcm hbase hg
def bzNum (a at_ : Int) : Int := at_ / a
def bzPart (a : Int) (b : List Int) (num : Int) : List Int := (b.drop (min (num * a) b.length).toNat).take ((min (min (num * a) b.length + a) b.length).toNat - (min (num * a) b.length).toNat)
def bzL (a : Int) (l : List S58) (b : List Int) (at_ : Int) : List S58 :=
  if 0 ≤ pgAt (at_ / a) l 0 then l.eraseIdx (pgAt (at_ / a) l 0).toNat ++ [rd_T58 l (pgAt (at_ / a) l 0)]
  else if 6 < (l ++ [(⟨at_ / a, bzPart a b (at_ / a)⟩ : S58)]).length then (l ++ [(⟨at_ / a, bzPart a b (at_ / a)⟩ : S58)]).eraseIdx 0 else l ++ [(⟨at_ / a, bzPart a b (at_ / a)⟩ : S58)]
def bzF (a : Int) (l : List S58) (f at_ : Int) : Int := if 0 ≤ pgAt (at_ / a) l 0 then f else min (f + 1) 4294967295
def bzX (a : Int) (l' : List S58) (at_ : Int) : Int :=
  if ((rd_T58 l' ((l'.length : Int) - 1)).f1.length : Int) ≤ at_ % a then -1 else wrap64 (rd (rd_T58 l' ((l'.length : Int) - 1)).f1 (at_ % a))
theorem pgAt_range (num : Int) : ∀ (l : List S58) (i : Int), 0 ≤ i → pgAt num l i = -1 ∨ (i ≤ pgAt num l i ∧ pgAt num l i < i + l.length)
  | [], i, _ => .inl rfl
  | x :: r, i, h => by
    unfold pgAt
    split
    · right; simp; omega
    · rcases pgAt_range num r (i + 1) (by omega) with h2 | h2
      · exact .inl h2
      · right; simp; omega
theorem bzL_pos (a : Int) (l : List S58) (b : List Int) (at_ : Int) (h : l.length ≤ 1000000) : 0 < (bzL a l b at_).length := by
  unfold bzL
  split
  · simp
  · split
    · rename_i h6
      rw [List.length_eraseIdx_of_lt (by omega)]
      omega
    · simp
theorem bzL_len (a : Int) (l : List S58) (b : List Int) (at_ : Int) (h : l.length ≤ 6) : (bzL a l b at_).length ≤ 7 := by
  unfold bzL
  split
  · rw [List.length_append, List.length_singleton]
    have := List.length_eraseIdx_le l (pgAt (at_ / a) l 0).toNat
    omega
  · split
    · have := List.length_eraseIdx_le (l ++ [(⟨at_ / a, bzPart a b (at_ / a)⟩ : S58)]) 0
      rw [List.length_append, List.length_singleton] at this
      omega
    · rw [List.length_append, List.length_singleton]; omega
theorem grown_drew {w w1 : World} {r : Option Nat} (h : w.drew.grownBy w1 r) : w.grownBy w1 r := ⟨h.os, h.tape, h.output, h.size, h.block⟩
theorem grown_alloc {w w1 : World} {r : Option Nat} {o : Obj} (h : (w.alloc o).grownBy w1 r) : w.grownBy w1 r :=
  ⟨h.os, h.tape, h.output, Nat.le_trans (by rw [World.size_alloc]; omega) h.size, fun k hk hne => (h.block k (by rw [World.size_alloc]; omega) hne).trans (Below.heap_alloc _ _ _ hk)⟩
theorem cap_le {α : Type} {d : Kd α} {e : Nat} {w : World} {base : Nat} {ok : Nat → Prop} {g n c : Nat} {xs : List α} (h : Kd.S d e w base ok (.slice (some ⟨g, 0, none⟩) n c) xs) : c ≤ 9223372036854775807 := by
  obtain ⟨inner, hown⟩ := Kd.S_own h
  rcases hown.2 with ⟨hv, _⟩ | ⟨g', cap', cur, hv, hb, hh, h4, hcm, hcs, htake⟩
  · cases hv
  injection hv with ha _ hc
  rw [hc]
  exact hcm
set_option maxHeartbeats 4000000 in
set_option maxRecDepth 100000 in
theorem fetch_c (lo g : Nat) (ok : Nat → Prop) (a f : Int) (l : List S58) (B : Option Addr) (cb : Nat) (b : List Int) (at_ : Int) (w : World) (hlw : lo ≤ w.heap.size) (hS : SSt lo ok w g a l f) (hlo : lo ≤ g) (hok : ∀ k, w.heap.size ≤ k → ok k) (hB : Kd.C (Kd.int .u8) w B b.length b) (hcb : b.length ≤ cb)
    (ha : 1 ≤ a ∧ a ≤ 60000) (hat : 0 ≤ at_ ∧ at_ ≤ 60000) (hl : l.length ≤ 6) (hf : 0 ≤ f ∧ f ≤ 4294967295) (hb : b.length ≤ 1000000000) :
    Calls Try.prog 34 #[.pointer (some ⟨g, 0, none⟩), .slice B b.length cb, .int .i64 at_] w fun e w' => e = .returned (.int .i64 (bzX a (bzL a l b at_) at_)) ∧ SSt lo ok w' g a (bzL a l b at_) (bzF a l f at_) ∧ Below lo w w' ∧ Kept w w' (fun k => ok k ∨ k = g) := by
  have hu := Try.underlying58
  have hu2 := Try.underlying24
  have HS := Aside0.mk hS
  have HO := Aside0.mk hlo
  have HLW := Aside0.mk hlw
  clear hlw
  have HK := Aside0.mk hok
  have HBB := Aside0.mk hB
  have HL := Aside0.mk hl
  have HF := Aside0.mk hf
  have HBL := Aside0.mk hb
  have HCB := Aside0.mk hcb
  have a1 : 1 ≤ a := ha.1
  have a2 : a ≤ 60000 := ha.2
  have t1 : 0 ≤ at_ := hat.1
  have t2 : at_ ≤ 60000 := hat.2
  have a0 : (a == 0) = false := by rw [beq_eq_false_iff_ne]; omega
  have a3 : ¬ (a = 0) := by omega
  obtain ⟨A, c, hbk, k0, k1, k2, kf, hSS⟩ := hS.cells
  have HSS := Aside0.mk hSS
  have HBK := Aside0.mk hbk
  obtain ⟨_, hc1, hc2⟩ := Kd.S_reads' hSS
  have HCl := Aside0.mk hc2
  have HCc := Aside0.mk hc1
  have HPf := Aside0.mk (show impl_pageAt.f 1 l (at_ / a) = some (pgAt (at_ / a) l 0) from by unfold impl_pageAt.f; rw [if_pos (by omega)])
  clear hc1 hc2
  clear hS hlo hok hB hcb ha hat hl hf hb hbk kf hSS
  go_enter Try.func34, Try.ntmps34
  go_upto_if 26 with (go_at_call 35; (with_reducible refine (impl_pageAt.calls 1 A c l (at_ / a) (pgAt (at_ / a) l 0) _ HCl.out HCc.out HPf.out).mono ?_); rintro e w' ⟨rfl, hb⟩; have HB1 := Aside0.mk hb; clear hb)
  go_cut [8] (fun v8 wc => Aside0 (SSt lo ok wc g a (bzL a l b at_) (bzF a l f at_)) ∧ Aside0 (Below lo w wc) ∧ Aside0 (Kept w wc (fun k => ok k ∨ k = g)))
  case first =>
    have HS1 := Aside0.mk (HS.out.below HB1.out)
    have HX1 := Aside0.mk (show Below lo w w' from HB1.out.mono HLW.out)
    have HY1 := Aside0.mk (Kept.of_below HB1.out (fun k => ok k ∨ k = g))
    have HBB1 := Aside0.mk (Kd.C_below HBB.out HB1.out)
    have HK1 := Aside0.mk (fun k (h : w'.heap.size ≤ k) => HK.out k (Nat.le_trans HB1.out.size h))
    have HLW1 := Aside0.mk (Nat.le_trans HLW.out HB1.out.size)
    clear HS HBK HSS HK HCl HBB
    obtain ⟨A', c', hbk, j0, j1, j2, kf, hSS⟩ := HS1.out.cells
    obtain ⟨rfl, rfl⟩ : A' = A ∧ c' = c := by
      have := j1.symm.trans ((HB1.out.cell (World.block_lt_of_cell? _ _ k1)).trans k1)
      simp at this
      exact this
    have hbr := pgAt_range (at_ / a) l 0 (Int.le_refl 0)
    by_cases hk : 0 ≤ pgAt (at_ / a) l 0
    · have hk1 : pgAt (at_ / a) l 0 < l.length := by omega
      have hbL : bzL a l b at_ = l.eraseIdx (pgAt (at_ / a) l 0).toNat ++ [rd_T58 l (pgAt (at_ / a) l 0)] := by unfold bzL; rw [if_pos hk]
      have hbF : bzF a l f at_ = f := by unfold bzF; rw [if_pos hk]
      obtain ⟨i, hi⟩ : ∃ i : Nat, pgAt (at_ / a) l 0 = i := ⟨(pgAt (at_ / a) l 0).toNat, by omega⟩
      rw [hi] at hk hk1 hbL ⊢
      have hil : i < l.length := by omega
      rw [Int.toNat_natCast, rd_at_P hil] at hbL
      have HE := Aside0.mk (And.intro hbL hbF)
      clear hbL hbF hi hbr
      obtain ⟨gv, cap, hA, hgv, _, _⟩ := Kd.S_form hSS (by omega)
      simp only [Value.slice.injEq] at hA
      obtain ⟨rfl, _, rfl⟩ := hA
      obtain ⟨oki, cc, _, hM, hcc, hoki, hH⟩ := Kd.S_lend hSS z58 (i : Int) (by omega) (by omega)
      rw [Int.toNat_natCast] at hcc
      rw [show (l.getD (i : Int).toNat z58) = l[i] from rd_at_P hil] at hM
      obtain ⟨v6, rfl, hR⟩ := k58_openM hM
      obtain ⟨A6, c6, rfl⟩ := Kd.R_slice hR
      have h0 : w'.cell? ⟨gv, i * 2, none⟩ = some (.int .i64 l[i].f0) := hcc 0 _ rfl
      have h1 : w'.cell? ⟨gv, i * 2 + 1, none⟩ = some (.slice A6 l[i].f1.length c6) := hcc 1 _ rfl
      obtain ⟨hn1, hn2, hn3⟩ := Kd.S_reads' hSS
      have p1 : (0 ≤ (i : Int)) = True := eq_true (by omega)
      have p2 : ((i : Int) < (l.length : Int)) = True := eq_true (by omega)
      have p3 : (i < l.length) = True := eq_true hil
      have b26 : decide (0 ≤ (i : Int)) = true := decide_eq_true (by omega)
      have HR := Aside0.mk hR
      have HH := Aside0.mk hH
      have HOK := Aside0.mk hoki
      have HGV := Aside0.mk hgv
      have HOG := Aside0.mk ((Kd.S_R hSS).1 gv (by simp [Value.ownBlock]))
      have HNE := Aside0.mk (Kd.S_ne hSS hbk (by decide))
      have HSS := Aside0.mk hSS
      have HBK := Aside0.mk hbk
      clear hcc hM hoki hH hR hSS hbk hgv hk hk1 k0 k1 k2
      generalize l[i] = x at HR h0 h1 HE
      go_upto_region 5 with fail
      have HH5 := Aside0.mk (Kd.H_alloc HH.out (.cells #[.int .i64 x.f0, .slice A6 x.f1.length c6] 58))
      have HR5 := Aside0.mk (Kd.R_alloc HR.out (.cells #[.int .i64 x.f0, .slice A6 x.f1.length c6] 58))
      have HBK5 := Aside0.mk (blk_alloc HBK.out (.cells #[.int .i64 x.f0, .slice A6 x.f1.length c6] 58))
      have HP5 := Aside0.mk (heap_alloc_new w' (.cells #[.int .i64 x.f0, .slice A6 x.f1.length c6] 58))
      have HX5 := Aside0.mk (HX1.out.alloc HLW1.out (.cells #[.int .i64 x.f0, .slice A6 x.f1.length c6] 58))
      have HY5 := Aside0.mk (Kept.alloc HY1.out (.cells #[.int .i64 x.f0, .slice A6 x.f1.length c6] 58))
      have HK5 := Aside0.mk (fun k (h : (w'.alloc (.cells #[.int .i64 x.f0, .slice A6 x.f1.length c6] 58)).heap.size ≤ k) => HK1.out k (Nat.le_trans (by rw [World.size_alloc]; omega) h))
      have HLW5 := Aside0.mk (show lo ≤ (w'.alloc (.cells #[.int .i64 x.f0, .slice A6 x.f1.length c6] 58)).heap.size from Nat.le_trans HLW1.out (by rw [World.size_alloc]; omega))
      have HNP := Aside0.mk (show some w'.heap.size ≠ some gv from by intro he; injection he with he; omega)
      have HNA := Aside0.mk (show some (w'.alloc (.cells #[.int .i64 x.f0, .slice A6 x.f1.length c6] 58)).heap.size ≠ some gv from by intro he; injection he with he; rw [World.size_alloc] at he; omega)
      have HNG := Aside0.mk (show some g ≠ some gv from by have := HNE.out; simpa [Value.ownBlock] using this)
      have HN0 := Aside0.mk (show l.length ≤ 1000000 ∧ l.length ≤ c' ∧ c' ≤ 9223372036854775807 from ⟨by have := HL.out; omega, hn2, cap_le HSS.out⟩)
      have HN1 := Aside0.mk (show (l.eraseIdx i).length ≤ 1000000 from by rw [List.length_eraseIdx_of_lt hil]; have := HL.out; omega)
      have HOP := Aside0.mk (show ∀ k, oki k → ok k ∧ some k ≠ (Value.slice (some ⟨gv, 0, none⟩) (l.length - 1) c').ownBlock from fun k hk => ⟨(HOK.out k hk).1, fun he => (HOK.out k hk).2 (by simpa [Value.ownBlock] using he)⟩)
      have HOI := Aside0.mk (show ∀ k, oki k → some k ≠ some gv from fun k hk he => (HOK.out k hk).2 (by injection he))
      have HRL := Aside0.mk (show ∀ k, some gv = some k → lo ≤ k from fun k hk => by injection hk with hk; rw [← hk]; exact HGV.out)
      have HRK := Aside0.mk (show ∀ k, some gv = some k → (ok k ∨ k = g) ∨ w.heap.size ≤ k from fun k hk => by injection hk with hk; rw [← hk]; exact .inl (.inl HOG.out))
      have HRW := Aside0.mk (show ∀ k, (Value.slice (some ⟨gv, 0, none⟩) (l.length - 1) c').ownBlock = some k → (ok k ∨ k = g) ∨ w.heap.size ≤ k from fun k hk => HRK.out k (by simpa [Value.ownBlock] using hk))
      clear HH HR HBK HX1 HY1 HK1 HLW1 h0 h1 j0 j1 j2 kf HS1 HBB1 hn1 hn2 hn3 HSS
      generalize w'.alloc (.cells #[.int .i64 x.f0, .slice A6 x.f1.length c6] 58) = w5 at HH5 HR5 HBK5 HP5 HX5 HY5 HK5 HLW5 HNA ⊢
      generalize w'.heap.size = gp at HP5 HNP ⊢
      have HLD := Aside0.mk (show lo ≤ w5.drew.heap.size from HLW5.out)
      have HLE := Aside0.mk (show lo ≤ (w5.alloc (.cells #[.int .i64 x.f0, .slice A6 x.f1.length c6] 58)).drew.heap.size from Nat.le_trans HLW5.out (by show _ ≤ (w5.alloc (.cells #[.int .i64 x.f0, .slice A6 x.f1.length c6] 58)).heap.size; rw [World.size_alloc]; omega))
      have hw : IntKind.i64.wrap ((i : Int) + 1) = (i : Int) + 1 := IntWalk.i64_in _ (by have := HL.out; omega)
      have e1 : w5.cell? ⟨g, 1, none⟩ = some (.slice (some ⟨gv, 0, none⟩) l.length c') := (blk_cell HBK5.out 1).trans rfl
      have x0 : w5.cell? ⟨gp, 0, none⟩ = some (.int .i64 x.f0) := (blk_cell HP5.out 0).trans rfl
      have x1 : w5.cell? ⟨gp, 1, none⟩ = some (.slice A6 x.f1.length c6) := (blk_cell HP5.out 1).trans rfl
      have e1a := pw_cell_below (below_alloc (Below.refl w5.heap.size w5) (.cells #[.int .i64 x.f0, .slice A6 x.f1.length c6] 58)) e1
      go_region_law (first | fail | (go_simp; go_at_call 43; first | ((with_reducible refine (delete_c lo gv l.length c' i w5.drew ok oki _ l (Kd.H_drew HH5.out) hil HN0.out.1 HN0.out.2.1 HN0.out.2.2 HLD.out HGV.out).mono ?_); rintro e w6 ⟨rfl, hS6, hg6⟩; have HG6 := Aside0.mk (grown_drew hg6); have HS6 := Aside0.mk hS6; clear hS6 hg6; have m2 := HG6.out.cell x0 HNP.out; have m3 := HG6.out.cell x1 HNP.out) | ((with_reducible refine (delete_c lo gv l.length c' i (w5.alloc (.cells #[.int .i64 x.f0, .slice A6 x.f1.length c6] 58)).drew ok oki _ l (Kd.H_drew (Kd.H_alloc HH5.out _)) hil HN0.out.1 HN0.out.2.1 HN0.out.2.2 HLE.out HGV.out).mono ?_); rintro e w6 ⟨rfl, hS6, hg6⟩; have HG6 := Aside0.mk (grown_alloc (grown_drew hg6)); have HA6 := Aside0.mk ((hg6.block _ (show w5.heap.size < (w5.alloc (.cells #[.int .i64 x.f0, .slice A6 x.f1.length c6] 58)).heap.size from by rw [World.size_alloc]; omega) HNA.out).trans (heap_alloc_new w5 (.cells #[.int .i64 x.f0, .slice A6 x.f1.length c6] 58))); have HS6 := Aside0.mk hS6; clear hS6 hg6; have m2 := HG6.out.cell x0 HNP.out; have m3 := HG6.out.cell x1 HNP.out)) | (refine page_append2 (w0 := w) (W := w6.alloc (.cells #[.int .i64 x.f0, .slice A6 x.f1.length c6] 58)) lo ok oki rfl (.tmp 42) (.tmp 44) (.slice (some ⟨gv, 0, none⟩) (l.length - 1) c') (.slice A6 x.f1.length c6) (l.eraseIdx i) x w6.heap.size 1 rfl rfl rfl (heap_alloc_new w6 _) (Kd.R_alloc (Kd.R_grown HR5.out HG6.out HOI.out) _) (Kd.S_alloc HS6.out _) HOP.out (fun k hk => HK5.out k (Nat.le_trans HG6.out.size (Nat.le_trans (by rw [World.size_alloc]; omega) hk))) ((HX5.out.grown HG6.out HLW5.out HRL.out).alloc (Nat.le_trans HLW5.out HG6.out.size) _) (Nat.le_trans (Nat.le_trans HLW5.out HG6.out.size) (by rw [World.size_alloc]; omega)) HN1.out ?_; intro v1 w1 hr1 hb1 hg1; obtain ⟨n0, n1, n2, nf, nS⟩ := SSt.grown (blk_alloc (blk_grown HBK5.out HG6.out HNG.out) _) hr1 hg1 HNE.out; have y1 := nf 1; obtain ⟨A7, c7, e7⟩ := Kd.S_slice hr1; subst e7; have HS7 := Aside0.mk nS; have HB7 := Aside0.mk hb1; have HY7 := Aside0.mk (Kept.of_grown hg1 (Kept.alloc (Kept.of_grown HG6.out HY5.out HRK.out) _) HRW.out); clear hr1 hb1 hg1 nS nf n0 n2) | (refine page_append2 (w0 := w) (W := w6) lo ok oki rfl (.tmp 42) (.tmp 44) (.slice (some ⟨gv, 0, none⟩) (l.length - 1) c') (.slice A6 x.f1.length c6) (l.eraseIdx i) x w5.heap.size 1 rfl rfl rfl HA6.out (Kd.R_grown HR5.out HG6.out HOI.out) HS6.out HOP.out (fun k hk => HK5.out k (Nat.le_trans HG6.out.size hk)) (HX5.out.grown HG6.out HLW5.out HRL.out) (Nat.le_trans HLW5.out HG6.out.size) HN1.out ?_; intro v1 w1 hr1 hb1 hg1; obtain ⟨n0, n1, n2, nf, nS⟩ := SSt.grown (blk_grown HBK5.out HG6.out HNG.out) hr1 hg1 HNE.out; have y1 := nf 1; obtain ⟨A7, c7, e7⟩ := Kd.S_slice hr1; subst e7; have HS7 := Aside0.mk nS; have HB7 := Aside0.mk hb1; have HY7 := Aside0.mk (Kept.of_grown hg1 (Kept.of_grown HG6.out HY5.out HRK.out) HRW.out); clear hr1 hb1 hg1 nS nf n0 n2))
      all_goals (go_wp2; go_meet; case rel => exact ⟨⟨by rw [HE.out.1, HE.out.2]; have hh := HS7.out; rw [List.length_append, List.length_singleton] at hh; exact hh⟩, ⟨HB7.out.setCell HO.out _⟩, ⟨HY7.out.setCell (.inl (.inr rfl)) _⟩⟩)
    · have hk9 : pgAt (at_ / a) l 0 = -1 := by omega
      have hbL : bzL a l b at_ = if 6 < (l ++ [(⟨at_ / a, bzPart a b (at_ / a)⟩ : S58)]).length then (l ++ [(⟨at_ / a, bzPart a b (at_ / a)⟩ : S58)]).eraseIdx 0 else l ++ [(⟨at_ / a, bzPart a b (at_ / a)⟩ : S58)] := by unfold bzL; rw [if_neg hk]
      have hbF : bzF a l f at_ = min (f + 1) 4294967295 := by unfold bzF; rw [if_neg hk]
      rw [hk9]
      have hm1 : 0 ≤ at_ / a * a := Int.mul_nonneg (Int.ediv_nonneg t1 (by omega)) (by omega)
      have hm2 : at_ / a * a ≤ at_ := Int.ediv_mul_le _ a3
      have hw1 : IntKind.i64.wrap (at_ / a * a) = at_ / a * a := IntWalk.i64_in _ (by omega)
      have hw2 : wrap64 (at_ / a * a) = at_ / a * a := by unfold wrap64; omega
      obtain ⟨m, hm⟩ : ∃ m : Nat, at_ / a * a = m := ⟨(at_ / a * a).toNat, by omega⟩
      obtain ⟨fr, hfr⟩ : ∃ fr : Nat, (if b.length < m then (b.length : Int) else (m : Int)) = (fr : Int) := ⟨min m b.length, by split <;> omega⟩
      obtain ⟨tp, hto⟩ : ∃ tp : Nat, (if (b.length : Int) < (fr : Int) + a then (b.length : Int) else (fr : Int) + a) = (tp : Int) := ⟨min (fr + a.toNat) b.length, by split <;> omega⟩
      have hft : fr ≤ tp := by have := HBL.out; split at hto <;> split at hfr <;> omega
      have htb : tp ≤ b.length := by split at hto <;> omega
      have hfb : fr ≤ b.length := by omega
      have hpart : bzPart a b (at_ / a) = (b.drop fr).take (tp - fr) := by
        unfold bzPart
        rw [hm, show (min (m : Int) (b.length : Int)) = (fr : Int) by split at hfr <;> omega, show (min ((fr : Int) + a) (b.length : Int)) = (tp : Int) by split at hto <;> omega]
        rfl
      rw [hpart] at hbL
      have HE := Aside0.mk (And.intro hbL hbF)
      have HPL := Aside0.mk (show ((b.drop fr).take (tp - fr)).length = tp - fr from by rw [List.length_take, List.length_drop]; omega)
      have hpc := Kd.C_take (Kd.C_drop HBB1.out hfb HCB.out) (m := tp - fr) (by rw [List.length_drop]; omega)
      rw [show fr * (Kd.int .u8).sz = fr from Nat.mul_one fr] at hpc
      obtain ⟨BX, hBX⟩ : ∃ BX, (if cb = fr then B else Option.map (fun x => x.add fr) B) = BX := ⟨_, rfl⟩
      rw [hBX] at hpc
      have HCP := Aside0.mk (copyBytes_c BX (cb - fr) ((b.drop fr).take (tp - fr)) w'.drew (Kd.C_drew hpc) (by have := HPL.out; have := HBL.out; omega))
      rw [HPL.out] at HCP
      clear hbL hbF hpart hpc
      generalize (b.drop fr).take (tp - fr) = part at HE HPL HCP
      generalize hl1 : l ++ [(⟨at_ / a, part⟩ : S58)] = l1 at HE
      have HL1 := Aside0.mk hl1
      clear hl1
      have s1 : (0 ≤ (fr : Int) ∧ (fr : Int) ≤ (tp : Int)) = True := eq_true (by omega)
      have s2 : tp ≤ cb := Nat.le_trans htb HCB.out
      have s3 : fr ≤ cb := by omega
      have HSS := Aside0.mk hSS
      have HBK := Aside0.mk hbk
      clear hSS hbk k0 k1 k2 hbr hk hk9
      go_upto_region 8 with fail
      go_cut [] (fun wd => Aside0 (SSt lo ok wd g a l1 f) ∧ Aside0 (Below lo w wd) ∧ Aside0 (Kept w wd (fun k => ok k ∨ k = g)))
      case first =>
        go_region_law (first | fail | (go_simp; go_at_call 42; (with_reducible refine HCP.out.mono ?_); rintro e w6 ⟨v6, rfl, hR6, hb6⟩; obtain ⟨A6, c6, e6⟩ := Kd.R_slice hR6; subst e6; have HR6 := Aside0.mk hR6; have HB6 := Aside0.mk (show Below w'.heap.size w' w6 from below_step (show Below w'.heap.size w' w'.drew from below_drew (Below.refl _ _)) hb6); have m1 := pw_cell_below HB6.out j1; have m4 := pw_cell_below (below_alloc (Below.refl w6.heap.size w6) (.cells #[.int .i64 (at_ / a), .slice A6 part.length c6] 58)) m1; clear hR6 hb6) | (refine page_append (w0 := w) (W := w6) lo ok (fun k => w'.heap.size ≤ k) rfl (.tmp 70) (.tmp 78) (.slice A' l.length c') (.slice A6 part.length c6) l ⟨at_ / a, part⟩ rfl rfl rfl rfl (Kd.R_lower (Kd.R_mono (Kd.R_bound HR6.out) (fun k hk => hk.2.1)) HLW1.out) (Kd.S_mono (Kd.S_old HSS.out HB6.out) (fun k hk => ⟨hk.1, Nat.not_le.2 hk.2⟩)) (fun k hk => ⟨HK1.out k hk, fun he => Nat.not_le.2 (Kd.S_lt HSS.out k he.symm) hk⟩) (fun k hk => HK1.out k (Nat.le_trans HB6.out.size hk)) (HX1.out.trans (HB6.out.mono HLW1.out)) (Nat.le_trans HLW1.out HB6.out.size) (by have := HL.out; omega) ?_; intro v1 w1 hr1 hb1 hg1; obtain ⟨n0, n1, n2, nf, nS⟩ := SSt.grown ((HB6.out.block _ (blk_lt HBK.out)).trans HBK.out) hr1 hg1 (Kd.S_ne HSS.out HBK.out (by decide)); have y1 := nf 1; obtain ⟨A7, c7, e7⟩ := Kd.S_slice hr1; subst e7; have HS7 := Aside0.mk nS; have HB7 := Aside0.mk hb1; have HY7 := Aside0.mk (Kept.of_grown hg1 (HY1.out.below HB6.out) (fun k hk => .inl (.inl ((Kd.S_R HSS.out).1 k hk)))); clear hr1 hb1 hg1 nS nf n0 n2))
        all_goals (go_wp2; go_meet; case rel => exact ⟨⟨by have hh := HS7.out; rw [List.length_append, List.length_singleton, HL1.out] at hh; exact hh⟩, ⟨HB7.out.setCell HO.out _⟩, ⟨HY7.out.setCell (.inl (.inr rfl)) _⟩⟩)
      case rest =>
        obtain ⟨HSd, HXd, HYd⟩ := hcut
        clear HS1 HX1 HY1 HBB1 HK1 HLW1 HCP HSS HBK hBX
        obtain ⟨f2, hf2⟩ : ∃ f2 : Int, (if 4294967295 < f + 1 then (4294967295 : Int) else f + 1) = f2 := ⟨_, rfl⟩
        have hf3 : min (f + 1) 4294967295 = f2 := by rw [← hf2]; split <;> omega
        rw [hf3] at HE
        have hw3 : IntKind.i64.wrap (f + 1) = f + 1 := IntWalk.i64_in _ (by have := HF.out; omega)
        have hw4 : wrap64 (f + 1) = f + 1 := by have := HF.out; unfold wrap64; omega
        obtain ⟨A8, c8, _, k0, k1, k2, kf, _⟩ := HSd.out.cells
        have f1 := kf 1
        have f2' := kf 2
        clear kf
        go_upto_if 96 with fail
        have HSq := Aside0.mk (HSd.out.set_2 f2)
        have HXq := Aside0.mk (HXd.out.setCell (p := ⟨g, 2, none⟩) HO.out (.int .i64 f2))
        have HYq := Aside0.mk (HYd.out.setCell (p := ⟨g, 2, none⟩) (.inl (.inr rfl)) (.int .i64 f2))
        have HLWq := Aside0.mk (show lo ≤ (wc.setCell ⟨g, 2, none⟩ (.int .i64 f2)).heap.size from Nat.le_trans HLW.out HXq.out.size)
        clear HSd HXd HYd k0 k1 k2 f1 f2'
        generalize wc.setCell ⟨g, 2, none⟩ (.int .i64 f2) = wq at HSq HXq HYq HLWq ⊢
        obtain ⟨A9, c9, hbk, k0, k1, k2, kf, hSS⟩ := HSq.out.cells
        have f1 := kf 1
        have HLL := Aside0.mk (show l1.length = l.length + 1 from by rw [← HL1.out, List.length_append, List.length_singleton])
        by_cases h6 : 6 < l1.length
        · have b1 : decide (6 < l1.length) = true := decide_eq_true h6
          have b2 : decide ((6 : Int) < (l1.length : Int)) = true := decide_eq_true (by omega)
          obtain ⟨g9, c9', hA, hgv, _, _⟩ := Kd.S_form hSS (by omega)
          simp only [Value.slice.injEq] at hA
          obtain ⟨rfl, _, rfl⟩ := hA
          obtain ⟨oki, cc, _, hM, hcc, hoki, hH⟩ := Kd.S_lend hSS z58 0 (by omega) (by omega)
          have HH := Aside0.mk hH
          have HGV := Aside0.mk hgv
          have HOG := Aside0.mk ((Kd.S_R hSS).1 g9 (by simp [Value.ownBlock]))
          have HNE := Aside0.mk (Kd.S_ne hSS hbk (by decide))
          have HBK := Aside0.mk hbk
          have HCL := Aside0.mk (And.intro (Kd.S_reads' hSS).2.1 (cap_le hSS))
          rw [if_pos h6] at HE
          clear hM hcc hoki hH hgv hbk hSS kf
          go_wp2_with (go_at_call 43; (with_reducible refine (delete_c0 lo g9 l1.length c9 wq ok oki _ l1 HH.out (by omega) (by have := HLL.out; have := HL.out; omega) HCL.out.1 HCL.out.2 HLWq.out HGV.out).mono ?_); rintro e w6 ⟨rfl, hS6, hg6⟩; obtain ⟨n0, n1, n2, nf, nS⟩ := SSt.grown HBK.out (Kd.S_mono hS6 (fun k hk => hk.1)) hg6 (by have := HNE.out; simpa [Value.ownBlock] using this); have y1 := nf 1; have HS7 := Aside0.mk nS; have HB7 := Aside0.mk (HXq.out.grown hg6 HLWq.out (fun k hk => by injection hk with hk; rw [← hk]; exact HGV.out)); have HY7 := Aside0.mk (Kept.of_grown hg6 HYq.out (fun k hk => by injection hk with hk; rw [← hk]; exact .inl (.inl HOG.out))); clear hS6 hg6 nS nf n0 n2 k0 k1 k2)
          go_meet
          case rel => exact ⟨⟨by rw [HE.out.1, HE.out.2]; exact HS7.out⟩, ⟨HB7.out.setCell HO.out _⟩, ⟨HY7.out.setCell (.inl (.inr rfl)) _⟩⟩
        · have b1 : decide (6 < l1.length) = false := decide_eq_false h6
          have b2 : decide ((6 : Int) < (l1.length : Int)) = false := decide_eq_false (by omega)
          rw [if_neg h6] at HE
          clear hbk hSS kf
          go_wp2
          go_meet
          case rel => exact ⟨⟨by rw [HE.out.1, HE.out.2]; exact HSq.out⟩, HXq, HYq⟩
  case rest =>
    obtain ⟨HSd, HXd, HYd⟩ := hcut
    clear HS HBB HSS HBK HCl HK HB1
    obtain ⟨l2, hl2⟩ : ∃ l2, bzL a l b at_ = l2 := ⟨_, rfl⟩
    have hne : 0 < l2.length := by rw [← hl2]; exact bzL_pos _ _ _ _ (by have := HL.out; omega)
    rw [hl2] at HSd
    obtain ⟨f2, hf2⟩ : ∃ f2, bzF a l f at_ = f2 := ⟨_, rfl⟩
    rw [hf2] at HSd
    have HE2 := Aside0.mk (And.intro hl2 hf2)
    have hlen2 : l2.length ≤ 7 := by rw [← hl2]; exact bzL_len _ _ _ _ HL.out
    clear hl2 hf2
    obtain ⟨A2, c2, hbk, j0, j1, j2, kf, hSS⟩ := HSd.out.cells
    obtain ⟨_, _, hCC⟩ := Kd.S_reads' hSS
    obtain ⟨i, hi⟩ : ∃ i : Nat, (l2.length : Int) - 1 = i := ⟨l2.length - 1, by omega⟩
    obtain ⟨ad, A3, c3, hA, h0, h1, h2, h3⟩ := at_T58 hCC (i : Int) (by omega) (by omega)
    subst hA
    have hx : bzX a l2 at_ = if ((rd_T58 l2 (i : Int)).f1.length : Int) ≤ at_ % a then -1 else wrap64 (rd (rd_T58 l2 (i : Int)).f1 (at_ % a)) := by unfold bzX; rw [hi]
    have HX := Aside0.mk hx
    clear hx hbk kf hSS hCC h0
    generalize (rd_T58 l2 (i : Int)).f1 = d at h1 h2 h3 HX
    rw [Int.toNat_natCast] at h1
    have r1 : 0 ≤ at_ % a := Int.emod_nonneg _ a3
    have r2 : at_ % a < a := Int.emod_lt_of_pos _ (by omega)
    have p1 : (0 ≤ (i : Int)) = True := eq_true (by omega)
    have p2 : ((i : Int) < (l2.length : Int)) = True := eq_true (by omega)
    have p3 : (i < l2.length) = True := eq_true (by omega)
    have w1 : wrap64 ((l2.length : Int) - 1) = (i : Int) := by rw [hi]; unfold wrap64; omega
    have w2 : IntKind.i64.wrap ((l2.length : Int) - 1) = (i : Int) := by rw [hi]; exact IntWalk.i64_in _ (by omega)
    by_cases hd : (d.length : Int) ≤ at_ % a
    · have b1 : decide ((d.length : Int) ≤ at_ % a) = true := decide_eq_true hd
      have HD := Aside0.mk (HX.out.trans (if_pos hd))
      go_wp2
      go_region
      all_goals (go_wp2; go_ret; exact ⟨by rw [HE2.out.1, HD.out]; rfl, by rw [HE2.out.1, HE2.out.2]; exact HSd.out.drew, HXd.out.drew, HYd.out.drew⟩)
    · have b1 : decide ((d.length : Int) ≤ at_ % a) = false := decide_eq_false hd
      have HD := Aside0.mk (HX.out.trans (if_neg hd))
      obtain ⟨j, hj⟩ : ∃ j : Nat, at_ % a = j := ⟨(at_ % a).toNat, by omega⟩
      rw [hj] at hd HD b1
      have hjl : j < d.length := by omega
      obtain ⟨ad3, cs, hA3, _, hK, hc3⟩ := Kd.C_get h3 (0 : Int) (j : Int) (by omega) (by omega)
      subst hA3
      have g0 : wc.cell? (ad3.add j) = some (.int .u8 (rd d (j : Int))) := by
        have hK' : cs = [.int .u8 (d.getD (j : Int).toNat 0)] := hK
        have := hc3 0 (.int .u8 (d.getD (j : Int).toNat 0)) (by rw [hK']; rfl)
        rw [Int.toNat_natCast, show (Kd.int .u8).sz = 1 from rfl, Nat.mul_one, Nat.add_zero] at this
        exact this
      have g1 : (0 ≤ (j : Int)) = True := eq_true (by omega)
      have g2 : ((j : Int) < (d.length : Int)) = True := eq_true (by omega)
      have g3 : (j < d.length) = True := eq_true hjl
      clear hc3 hK
      go_wp2
      go_region
      all_goals (go_wp2; go_ret; exact ⟨by rw [HE2.out.1, HD.out]; rfl, by rw [HE2.out.1, HE2.out.2]; exact HSd.out.drew, HXd.out.drew, HYd.out.drew⟩)

/-! ### impl_within: function 36 -/
def impl_within.f (a0 : Int) (a1 : Int) (a2 : Int) : Option (Bool) := if a0 ≥ a1 then (some (decide (a0 ≤ a2))) else (some false)
set_option maxHeartbeats 8000000 in
set_option maxRecDepth 100000 in
theorem impl_within.calls (a0 : Int) (a1 : Int) (a2 : Int) (r : Bool) (w : World) (h : impl_within.f a0 a1 a2 = some r) :
    Calls Try.prog 36 #[.int .i64 a0, .int .i64 a1, .int .i64 a2] w fun e w' => e = .returned (.bool r) ∧ Drawn0 w w' := by
  have H : (if a0 ≥ a1 then (some (decide (a0 ≤ a2))) else (some false)) = some r := h
  clear h
  by_cases c4 : a0 ≥ a1
  · rw [if_pos c4] at H
    have c4b0 : decide (a1 ≤ a0) = true := decide_eq_true c4
    clear c4
    obtain rfl := Option.some.inj H
    go_enter Try.func36, Try.ntmps36
    go_wp2
    go_ret
    exact ⟨by first | rfl | (simp; done) | (simp [*]; done), by repeat (first | exact Drawn0.refl _ | apply Drawn0.step)⟩
  · rw [if_neg c4] at H
    have c4b0 : decide (a1 ≤ a0) = false := decide_eq_false c4
    clear c4
    obtain rfl := Option.some.inj H
    go_enter Try.func36, Try.ntmps36
    go_wp2
    go_ret
    exact ⟨by first | rfl | (simp; done) | (simp [*]; done), by repeat (first | exact Drawn0.refl _ | apply Drawn0.step)⟩

end Go.Proofs.Ytbjkaapkmemojaa.PFnSource
