/- Texts joined by a program of mine: Ta Vb Vc. -/
import Derived.Test.YtfcahachdpjfoaaZc13
section
namespace Go.Proofs.Ytfcahachdpjfoaa.L
open Go.RowKit Go.Proofs.YtfcahachdpjfoaaW.PrintWords Go.Proofs.YtfcahachdpjfoaaW.PrintLast Go.Proofs.YtfcahachdpjfoaaW.PrintMore Go.Proofs.Ytfcahachdpjfoaa.Gr
set_option linter.unusedVariables false
set_option linter.unusedSimpArgs false
attribute [local go_sem] G.cell
def NumAt (W : World) (b : Nat) : Prop := ∃ n : Int, W.heap[b]? = some (.cells #[.int .i64 n] 3 (0, 0))
theorem Gw.refl {Wb W : World} {b : Nat} (h : Below Wb.heap.size Wb W) : Gw Wb W W b := ⟨h, ⟨rfl, rfl, rfl, Nat.le_refl _, fun _ _ _ => rfl⟩⟩
theorem Gw.alloc {Wb W : World} {b : Nat} (h : Below Wb.heap.size Wb W) (o : Obj) : Gw Wb W (W.alloc o) b := ⟨h.alloc h.size o, ⟨rfl, rfl, rfl, by simp, fun i hi _ => Below.heap_alloc W o i hi⟩⟩
theorem Gw.put {Wb W W1 : World} {b : Nat} (h : Gw Wb W W1 b) (hb : Wb.heap.size ≤ b) (j : Nat) (u : Value) : Gw Wb W (W1.setCell ⟨b, j, none⟩ u) b :=
  h.trans ⟨h.below.setCell (p := ⟨b, j, none⟩) hb u, ⟨rfl, rfl, rfl, by simp [World.setCell], fun i hi hne => Below.heap_setCell _ _ _ _ (fun e => hne (by rw [e]))⟩⟩
theorem Gw.blk {Wb W W1 : World} {b i : Nat} {o : Obj} (h : Gw Wb W W1 b) (hi : W.heap[i]? = some o) (hne : i ≠ b) : W1.heap[i]? = some o := (h.grown.block i (blk_lt hi) (fun e => hne (by injection e))).trans hi
def PartsC (x : S75) : Prop := ∀ (Wb W : World) (b : Nat) (A : Option Addr) (c : Nat), Below Wb.heap.size Wb W → Wb.heap.size ≤ b → NumAt W b → k75.C Wb A x.f3.length x.f3 → x.f3.length ≤ c →
  Calls Try.prog 99 #[.agg #[.int .i64 x.f0, .int .u64 x.f1, .string x.f2, .slice A x.f3.length c], .pointer (some ⟨b, 0, none⟩)] W fun e W' => e = .returned (.tuple #[]) ∧ NumAt W' b ∧ Gw Wb W W' b
set_option maxHeartbeats 1000000 in
set_option maxRecDepth 100000 in
theorem parts_walk (x : S75) (ih : ∀ y ∈ x.f3, PartsC y) : PartsC x := by
  intro Wb W b A c hB hb hn hc hl
  have IH := Aside0.mk ih
  have HC := Aside0.mk hc
  have HB := Aside0.mk hB
  have HBB := Aside0.mk hb
  have hlm := hc.2.1
  obtain ⟨n, hn⟩ := hn
  have hlt := blk_lt hn
  have HN := Aside0.mk hn
  have z0 : ∀ o : Obj, (W.alloc o).cell? ⟨b, 0, none⟩ = some (.int .i64 n) := fun o => (blk_cell (blk_alloc hn o) 0).trans rfl
  have y0 : ∀ o : Obj, (W.alloc o).frozen? ⟨b, 0, none⟩ = false := fun o => blk_frozen (blk_alloc hn o) 0
  clear ih hc hB hb hn
  obtain ⟨x0, x1, x2, x3⟩ := x
  simp only at *
  go_enter Try.func99, Try.ntmps99
  go_upto_region 2 with (fail)
  obtain ⟨X, hX⟩ : ∃ X, X = (W.setCell ⟨b, 0, none⟩ (.int .i64 (wrap64 (n + 1)))).alloc (.cells #[.int .i64 x0, .int .u64 x1, .string x2, .slice A x3.length c] 75) := ⟨_, rfl⟩
  rw [← hX]
  have KX := Aside0.mk (show NumAt X b ∧ Gw Wb W X b ∧ X.heap[W.heap.size]? = some (.cells #[.int .i64 x0, .int .u64 x1, .string x2, .slice A x3.length c] 75 (0, 0)) from by
    rw [hX]
    exact ⟨⟨_, blk_alloc (blk_put HN.out 0 _ rfl) _⟩, ((Gw.refl HB.out).put HBB.out 0 _).trans (Gw.alloc ((Gw.refl HB.out).put HBB.out 0 _).below _), by simpa [World.setCell] using blk_new (W.setCell ⟨b, 0, none⟩ (.int .i64 (wrap64 (n + 1)))) (.cells #[.int .i64 x0, .int .u64 x1, .string x2, .slice A x3.length c] 75)⟩)
  clear hX z0 y0
  have HLT := Aside0.mk hlt
  clear hlt
  go_wp2_with fail
  go_loopw [4] (fun i W1 => ∃ k : Nat, i = .int .i64 k ∧ k ≤ x3.length ∧ Aside0 (NumAt W1 b ∧ Gw Wb X W1 b)) (fun i _ => x3.length - (intOf i).toNat)
  case atStart => exact ⟨0, rfl, Nat.zero_le _, ⟨KX.out.1, Gw.refl KX.out.2.1.below⟩⟩
  case round =>
    obtain ⟨k, rfl, hk, HREL⟩ := hrel
    have hbx : wr.cell? ⟨W.heap.size, 3, none⟩ = some (.slice A x3.length c) := (blk_cell (HREL.out.2.blk KX.out.2.2 (by have := HLT.out; omega)) 3).trans rfl
    by_cases hlt : k < x3.length
    · have hi1 : (k : Int) < (x3.length : Int) := by omega
      obtain ⟨m, hm⟩ := HREL.out.1
      have hz : wr.cell? ⟨b, 0, none⟩ = some (.int .i64 m) := (blk_cell hm 0).trans rfl
      clear hm
      by_cases h1 : m ≤ 10000
      · obtain ⟨ad, A3, c3, e1, q0, q1, q2, q3, l3, g3⟩ := at_T75 HC.out (k : Int) (Int.natCast_nonneg _) (by omega)
        cases e1
        rw [Int.toNat_natCast] at q0 q1 q2 q3
        replace q0 := held_in HREL.out.2.below q0
        replace q1 := held_in HREL.out.2.below q1
        replace q2 := held_in HREL.out.2.below q2
        replace q3 := held_in HREL.out.2.below q3
        have K := Aside0.mk (And.intro l3 g3)
        clear l3 g3
        have MEM := Aside0.mk (rd75_mem hlt)
        go_wp2_with fail
        refine (IH.out _ MEM.out Wb wr b A3 c3 HREL.out.2.below HBB.out HREL.out.1 K.out.2 K.out.1).mono ?_
        rintro _ W2 ⟨rfl, hn2, hg2⟩
        have H2 := Aside0.mk (And.intro hn2 hg2)
        clear hn2 hg2
        go_wp2_with fail
        exact ⟨⟨k + 1, by go_num, by omega, ⟨H2.out.1, HREL.out.2.trans H2.out.2⟩⟩, by simp [intOf]; omega⟩
      · go_wp2_with fail
        first | go_end0 | skip
        exact ⟨rfl, HREL.out.1, KX.out.2.1.trans HREL.out.2⟩
    · go_wp2_with fail
      first | go_end0 | skip
      exact ⟨rfl, HREL.out.1, KX.out.2.1.trans HREL.out.2⟩
theorem lparts_calls : ∀ (n : Nat) (x : S75), SizeOf.sizeOf x ≤ n → PartsC x := by
  intro n
  induction n with
  | zero => intro x h; obtain ⟨a, b, s, l⟩ := x; simp at h
  | succ n ih => exact fun x h => parts_walk x fun y hy => ih y (rd75_size rfl hy h)
theorem body_size {x : S77} {l : List S77} {n : Nat} (hx : x ∈ l) (h : SizeOf.sizeOf l ≤ n + 1) : SizeOf.sizeOf x.f6 ≤ n ∧ SizeOf.sizeOf x.f7 ≤ n := by
  have := List.sizeOf_lt_of_mem hx
  obtain ⟨k, s, e, f, lo, hi, th, el⟩ := x
  simp at this ⊢
  omega
def CountC (l : List S77) : Prop := ∀ (Wb W : World) (b : Nat) (A : Option Addr) (c : Nat), Below Wb.heap.size Wb W → Wb.heap.size ≤ b → NumAt W b → k77.C Wb A l.length l → l.length ≤ c →
  Calls Try.prog 85 #[.slice A l.length c, .pointer (some ⟨b, 0, none⟩)] W fun e W' => (∃ n : Int, e = .returned (.int .i64 n)) ∧ NumAt W' b ∧ Gw Wb W W' b
set_option maxHeartbeats 2000000 in
set_option maxRecDepth 100000 in
theorem count_walk (l : List S77) (ih : ∀ x ∈ l, CountC x.f6 ∧ CountC x.f7) : CountC l := by
  intro Wb W b A c hB hb hn hc hl
  have IH := Aside0.mk ih
  have HC := Aside0.mk hc
  have HB := Aside0.mk hB
  have HBB := Aside0.mk hb
  have HN := Aside0.mk hn
  have hlm := hc.2.1
  clear ih hc hB hb hn
  go_enter Try.func85, Try.ntmps85
  go_wp2_with fail
  go_loopw [5] (fun i W1 => ∃ k : Nat, i = .int .i64 k ∧ k ≤ l.length ∧ Aside0 (NumAt W1 b ∧ Gw Wb W W1 b)) (fun i _ => l.length - (intOf i).toNat)
  case atStart => exact ⟨0, rfl, Nat.zero_le _, ⟨HN.out, Gw.refl HB.out⟩⟩
  case round =>
    obtain ⟨k, rfl, hk, HREL⟩ := hrel
    obtain ⟨m, hm⟩ := HREL.out.1
    have hz : wr.cell? ⟨b, 0, none⟩ = some (.int .i64 m) := (blk_cell hm 0).trans rfl
    by_cases hlt : k < l.length
    · have hi1 : (k : Int) < (l.length : Int) := by omega
      by_cases h1 : m ≤ 10000
      · obtain ⟨ad, A5, c5, A9, c9, A12, c12, A13, c13, e1, q0, q1, q2, q3, q4, q5, q6, q7, q8, q9, q10, q11, q12, q13, l5, g5, l9, g9, l12, g12, l13, g13⟩ := at_T77 HC.out (k : Int) (Int.natCast_nonneg _) (by omega)
        cases e1
        rw [Int.toNat_natCast] at q2 q3 q4 q5 q6 q7 q8 q9 q12 q13
        clear q0 q1 q10 q11
        have Q := Aside0.mk (And.intro q2 (And.intro q3 (And.intro q4 (And.intro q5 (And.intro q6 (And.intro q7 (And.intro q8 (And.intro q9 (And.intro q12 q13)))))))))
        clear q2 q3 q4 q5 q6 q7 q8 q9 q12 q13
        have K := Aside0.mk (And.intro l5 (And.intro g5 (And.intro l9 (And.intro g9 (And.intro l12 (And.intro g12 (And.intro l13 g13)))))))
        clear l5 g5 l9 g9 l12 g12 l13 g13
        have IH1 := Aside0.mk (IH.out _ (rd77_mem hlt))
        generalize rd_T77 l (k : Int) = y at *
        have y0 := blk_frozen hm 0
        have KX := Aside0.mk (show NumAt (wr.setCell ⟨b, 0, none⟩ (.int .i64 (wrap64 (m + 1)))) b ∧ Gw Wb W (wr.setCell ⟨b, 0, none⟩ (.int .i64 (wrap64 (m + 1)))) b from ⟨⟨_, blk_put hm 0 _ rfl⟩, HREL.out.2.put HBB.out 0 _⟩)
        clear hm
        go_upto_region 5 with (fail)
        generalize wr.setCell ⟨b, 0, none⟩ (.int .i64 (wrap64 (m + 1))) = X at *
        clear hz y0
        have q2 := held_in KX.out.2.below Q.out.1
        have q3 := held_in KX.out.2.below Q.out.2.1
        have q4 := held_in KX.out.2.below Q.out.2.2.1
        have q5 := held_in KX.out.2.below Q.out.2.2.2.1
        go_wp2_with fail
        refine (lparts_calls _ y.f2 (Nat.le_refl _) Wb X b A5 c5 KX.out.2.below HBB.out KX.out.1 K.out.2.1 K.out.1).mono ?_
        rintro _ X5 ⟨rfl, hn2, hg2⟩
        have H5 := Aside0.mk (And.intro hn2 (KX.out.2.trans hg2))
        clear hn2 hg2 q2 q3 q4 q5
        have q6 := held_in H5.out.2.below Q.out.2.2.2.2.1
        have q7 := held_in H5.out.2.below Q.out.2.2.2.2.2.1
        have q8 := held_in H5.out.2.below Q.out.2.2.2.2.2.2.1
        have q9 := held_in H5.out.2.below Q.out.2.2.2.2.2.2.2.1
        go_wp2_with fail
        refine (lparts_calls _ y.f3 (Nat.le_refl _) Wb X5 b A9 c9 H5.out.2.below HBB.out H5.out.1 K.out.2.2.2.1 K.out.2.2.1).mono ?_
        rintro _ X9 ⟨rfl, hn2, hg2⟩
        have H9 := Aside0.mk (And.intro hn2 (H5.out.2.trans hg2))
        clear hn2 hg2 q6 q7 q8 q9
        have q12 := held_in H9.out.2.below Q.out.2.2.2.2.2.2.2.2.1
        go_wp2_with fail
        refine (IH1.out.1 Wb X9 b A12 c12 H9.out.2.below HBB.out H9.out.1 K.out.2.2.2.2.2.1 K.out.2.2.2.2.1).mono ?_
        rintro _ X12 ⟨⟨_, rfl⟩, hn2, hg2⟩
        have H12 := Aside0.mk (And.intro hn2 (H9.out.2.trans hg2))
        clear hn2 hg2 q12
        have q13 := held_in H12.out.2.below Q.out.2.2.2.2.2.2.2.2.2
        go_wp2_with fail
        refine (IH1.out.2 Wb X12 b A13 c13 H12.out.2.below HBB.out H12.out.1 K.out.2.2.2.2.2.2.2 K.out.2.2.2.2.2.2.1).mono ?_
        rintro _ X13 ⟨⟨_, rfl⟩, hn2, hg2⟩
        have H13 := Aside0.mk (And.intro hn2 (H12.out.2.trans hg2))
        clear hn2 hg2 q13
        go_wp2_with fail
        exact ⟨⟨k + 1, by go_num, by omega, ⟨H13.out.1, H13.out.2⟩⟩, by simp [intOf]; omega⟩
      · clear hm
        go_wp2_with fail
        go_ret
        exact ⟨⟨_, rfl⟩, HREL.out.1, HREL.out.2⟩
    · clear hm
      go_wp2_with fail
      go_ret
      exact ⟨⟨_, rfl⟩, HREL.out.1, HREL.out.2⟩
theorem count_calls : ∀ (n : Nat) (l : List S77), SizeOf.sizeOf l ≤ n → CountC l := by
  intro n
  induction n with
  | zero => intro l h; cases l <;> simp at h
  | succ n ih => exact fun l h => count_walk l fun x hx => ⟨ih _ (body_size hx h).1, ih _ (body_size hx h).2⟩
end Go.Proofs.Ytfcahachdpjfoaa.L
end
section
namespace Go.Proofs.Ytfcahachdpjfoaa.L
open Go.RowKit Go.Proofs.YtfcahachdpjfoaaW.PrintWords Go.Proofs.YtfcahachdpjfoaaW.PrintLast Go.Proofs.YtfcahachdpjfoaaW.PrintMore Go.Proofs.Ytfcahachdpjfoaa.Gr
set_option linter.unusedVariables false
set_option linter.unusedSimpArgs false
attribute [local go_sem] G.cell
def outL (f : Th → Bool) : Nat → List Th → Ending
  | _, [] => .returned (.tuple #[])
  | n, t :: r => if f t = true then .panicked (foundV n) else outL f (n + 1) r
theorem outL_ret {f : Th → Bool} : ∀ {n : Nat} {l : List Th}, l.any f = false → outL f n l = .returned (.tuple #[])
  | _, [], _ => rfl
  | n, t :: r, h => by
    rw [List.any_cons, Bool.or_eq_false_iff] at h
    rw [outL, if_neg (by simp [h.1]), outL_ret h.2]
theorem outL_bad {f : Th → Bool} : ∀ {n : Nat} {l : List Th}, l.any f = true → ∃ m, outL f n l = .panicked (foundV m)
  | _, [], h => by simp at h
  | n, t :: r, h => by
    rw [outL]
    by_cases ht : f t = true
    · rw [if_pos ht]; exact ⟨n, rfl⟩
    · rw [if_neg ht]
      rw [List.any_cons] at h
      exact outL_bad (by simpa [ht] using h)
theorem outL_add {f : Th → Bool} : ∀ {n : Nat} {a r : List Th}, a.any f = false → outL f n (a ++ r) = outL f (n + a.length) r
  | _, [], _, _ => rfl
  | n, t :: s, r, h => by
    rw [List.any_cons, Bool.or_eq_false_iff] at h
    rw [List.cons_append, outL, if_neg (by simp [h.1]), outL_add h.2, List.length_cons]
    congr 1
    omega
theorem outL_head {f : Th → Bool} : ∀ {n : Nat} {m r : List Th}, m.any f = true → outL f n (m ++ r) = outL f n m
  | _, [], _, h => by simp at h
  | n, t :: s, r, h => by
    rw [List.cons_append, outL, outL]
    by_cases ht : f t = true
    · rw [if_pos ht, if_pos ht]
    · rw [if_neg ht, if_neg ht]
      rw [List.any_cons] at h
      exact outL_head (by simpa [ht] using h)
theorem ScopeR.ptr {W : World} {v : Value} {lo : List ByteArray} (h : ScopeR W v lo) : ∃ q, v = .pointer q := by
  cases lo with
  | nil => exact ⟨none, h⟩
  | cons nm r => obtain ⟨b, nx, hv, _⟩ := h; exact ⟨_, hv⟩
theorem addr_eta {w : World} {a : Addr} {v : Value} (h : w.cell? a = some v) : a = ⟨a.block, a.off, none⟩ := by
  obtain ⟨b, o, s⟩ := a
  cases s with
  | none => rfl
  | some s =>
    unfold World.cell? at h
    simp at h
    split at h <;> simp at h
theorem ex_kid {Wb : World} {A : Option Addr} {n : Nat} {l : List S75} (h : k75.C Wb A n l) {k : Nat} (hk : k < n) : ∃ ad, A = some ad ∧ ExAt Wb (.pointer (some (ad.add (k * 4)))) (rd_T75 l (k : Int)) := by
  obtain ⟨ad, A3, c3, e, q0, q1, q2, q3, l3, g3⟩ := at_T75 h (k : Int) (Int.natCast_nonneg _) (by omega)
  rw [Int.toNat_natCast] at q0 q1 q2 q3
  have he := addr_eta q0
  refine ⟨ad, e, ad.add (k * 4), A3, c3, by rw [← he], ?_, l3, g3⟩
  intro j v hj
  match j, hj with
  | 0, hj => simp at hj; subst hj; rw [Nat.add_zero, ← he]; exact q0
  | 1, hj => simp at hj; subst hj; exact q1
  | 2, hj => simp at hj; subst hj; rw [← q2]
  | 3, hj => simp at hj; subst hj; rw [← q3]
  | j + 4, hj => simp at hj
theorem exThs_app (a b : List S75) (lo : List ByteArray) : exThs (a ++ b) lo = exThs a lo ++ exThs b lo := by
  induction a with
  | nil => simp [exThs]
  | cons x r ih => rw [List.cons_append, exThs, ih, exThs, List.append_assoc]
theorem exThs_split (l : List S75) (k : Nat) (hk : k < l.length) (lo : List ByteArray) : exThs l lo = exThs (l.take k) lo ++ (exTh (rd_T75 l (k : Int)) lo ++ exThs (l.drop (k + 1)) lo) := by
  have h := exThs_app (l.take (k + 1)) (l.drop (k + 1)) lo
  rw [List.take_append_drop, take_rd75 hk, exThs_add, List.append_assoc] at h
  exact h
def WExpr (Wb : World) (bw b : Nat) (R : Th → Prop) (f : Th → Bool) (e : S75) : Prop := ∀ (W : World) (n : Nat) (p lp : Value) (lo : List ByteArray), (∀ t ∈ exTh e lo, R t) → Below Wb.heap.size Wb W → W.heap[b]? = some (.cells #[.int .i64 n, seeV bw] 137 (0, 0)) → ExAt Wb p e → ScopeR W lp lo.reverse → n + weightE e < 4611686018427387904 →
  Calls Try.prog 116 #[.pointer (some ⟨b, 0, none⟩), p, lp] W fun r W' => r = outL f n (exTh e lo) ∧ ((exTh e lo).any f = false → W'.heap[b]? = some (.cells #[.int .i64 ((n + weightE e : Nat) : Int), seeV bw] 137 (0, 0))) ∧ Gw Wb W W' b
set_option maxHeartbeats 1500000 in
set_option maxRecDepth 100000 in
theorem wexpr_walk {Wb : World} {bw b : Nat} {R : Th → Prop} {f : Th → Bool} (hs : SeeOK Wb bw R f) (hbb : Wb.heap.size ≤ b) (e : S75) (ih : ∀ y ∈ e.f3, WExpr Wb bw b R f y) : WExpr Wb bw b R f e := by
  intro W n p lp lo hRR hB hw hx hsc hn
  have HX := Aside0.mk hx
  obtain ⟨lq, rfl⟩ := hsc.ptr
  obtain ⟨a, A, c, rfl, hr, hl, hC⟩ := hx
  have HS := Aside0.mk hs
  have HRR := Aside0.mk hRR
  clear hRR
  have HW := Aside0.mk hw
  have HB := Aside0.mk hB
  have HBB := Aside0.mk hbb
  have HSC := Aside0.mk hsc
  have HN := Aside0.mk hn
  have IH := Aside0.mk ih
  have HRG := Aside0.mk hr
  have HC := Aside0.mk hC
  have hlm := hC.2.1
  clear hs hw hB hbb hsc hn ih hr hC
  go_enter Try.func116, Try.ntmps116
  go_wp2_with fail
  refine (tell_calls HS.out HBB.out W n (by have := HN.out; omega) (.pointer none) (.pointer none) (.pointer (some ⟨a.block, a.off, none⟩)) 0 0 (.pointer lq) (.expr e lo) (HRR.out _ (by rw [exTh_eq]; exact List.mem_cons_self)) HB.out HW.out ⟨rfl, rfl, HX.out, rfl, HSC.out⟩).mono ?_
  rintro _ W1 ⟨rfl, hw1, hg1⟩
  rcases bcases (f (.expr e lo)) with hf | hf
  · rw [hf]
    refine ⟨rfl, ?_, ?_, hg1⟩
    · rw [exTh_eq, outL, if_pos hf]
    · intro h
      rw [exTh_eq, List.any_cons, hf] at h
      cases h
  rw [hf]
  have HF := Aside0.mk hf
  have HR1 := Aside0.mk (And.intro hw1 hg1)
  have z3 : W1.cell? ⟨a.block, a.off + 3, none⟩ = some (.slice A e.f3.length c) := held_in hg1.below (HRG.out 3 _ rfl)
  clear hw1 hg1 hf
  rw [show outE false n = .returned (.tuple #[]) from rfl]
  go_wp2_with fail
  go_loopw [17] (fun i W => ∃ (k : Nat) (W2 : World), i = .int .i64 k ∧ W2 = W ∧ k ≤ e.f3.length ∧ Aside0 (W2.heap[b]? = some (.cells #[.int .i64 ((n + 1 + weightL (e.f3.take k) : Nat) : Int), seeV bw] 137 (0, 0)) ∧ Gw Wb W1 W2 b ∧ (exThs (e.f3.take k) lo).any f = false)) (fun i _ => e.f3.length - (intOf i).toNat)
  case atStart => exact ⟨0, _, rfl, rfl, Nat.zero_le _, ⟨by simpa [weightL] using HR1.out.1, ⟨HR1.out.2.below, ⟨rfl, rfl, rfl, Nat.le_refl _, fun _ _ _ => rfl⟩⟩, by simp [exThs]⟩⟩
  case round =>
    obtain ⟨k, W2, rfl, rfl, hk, HK⟩ := hrel
    by_cases hlt : k < e.f3.length
    · obtain ⟨ad, e1, hkid⟩ := ex_kid HC.out hlt
      cases e1
      have HKID := Aside0.mk hkid
      clear hkid
      have hk1 : (k : Int) < (e.f3.length : Int) := by omega
      have z3 : W2.cell? ⟨a.block, a.off + 3, none⟩ = some (.slice (some ad) e.f3.length c) := held_in HK.out.2.1.below (HRG.out 3 _ rfl)
      have MEM := Aside0.mk (rd75_mem hlt)
      have T := Aside0.mk (And.intro (congrArg weightL (take_rd75 hlt)) (congrArg (fun l => exThs l lo) (take_rd75 hlt)))
      have SP := Aside0.mk (exThs_split e.f3 k hlt lo)
      have WT := Aside0.mk (weightL_take e.f3 (k + 1))
      obtain ⟨y, hy⟩ : ∃ y, y = rd_T75 e.f3 (k : Int) := ⟨_, rfl⟩
      rw [← hy] at HKID MEM T SP
      clear hy
      have HNY : n + 1 + weightL (e.f3.take k) + weightE y < 4611686018427387904 := by
        have h1 := HN.out
        have h2 := T.out.1
        have h3 := WT.out
        rw [weightL_add] at h2
        rw [weightE_eq] at h1
        omega
      have HNY := Aside0.mk HNY
      go_wp2_with fail
      refine (IH.out _ MEM.out W2 (n + 1 + weightL (e.f3.take k)) (.pointer (some (ad.add (k * 4)))) (.pointer lq) lo (fun t ht => HRR.out t (by rw [exTh_eq, SP.out]; simp [ht])) HK.out.2.1.below HK.out.1 HKID.out (((HSC.out.step HW.out HR1.out.2.grown)).step HR1.out.1 HK.out.2.1.grown) HNY.out).mono ?_
      rintro _ W3 ⟨rfl, hw3, hg3⟩
      rcases bcases ((exTh y lo).any f) with ha | ha
      · obtain ⟨m, hm⟩ := outL_bad (n := n + 1 + weightL (e.f3.take k)) ha
        rw [hm]
        refine ⟨rfl, ?_, ?_, HR1.out.2.trans (HK.out.2.1.trans hg3)⟩
        · rw [exTh_eq, outL, if_neg (by simp [HF.out]), SP.out, outL_add HK.out.2.2, outL_head ha, exThs_len, ← hm]
        · intro h
          rw [exTh_eq, SP.out] at h
          simp [ha] at h
      · rw [outL_ret ha]
        have HA := Aside0.mk ha
        have HR3 := Aside0.mk (And.intro (hw3 ha) hg3)
        clear ha hw3 hg3
        go_wp2_with fail
        refine ⟨⟨k + 1, W3, by go_num, rfl, by omega, ⟨?_, HK.out.2.1.trans HR3.out.2, ?_⟩⟩, by simp [intOf]; omega⟩
        · have h1 := HR3.out.1
          have h2 := T.out.1
          rw [weightL_add] at h2
          rw [h2, ← Nat.add_assoc]
          exact h1
        · have h2 := T.out.2
          simp only [exThs_add] at h2
          rw [h2, List.any_append, HK.out.2.2, HA.out]
          rfl
    · go_wp2_with fail
      first | go_end0 | skip
      have hke : k = e.f3.length := by omega
      have h1 := HK.out
      rw [hke, List.take_length] at h1
      have ha : (exTh e lo).any f = false := by rw [exTh_eq, List.any_cons, HF.out, h1.2.2]; rfl
      refine ⟨(outL_ret ha).symm, fun _ => ?_, HR1.out.2.trans h1.2.1⟩
      rw [weightE_eq, ← Nat.add_assoc]
      exact h1.1
theorem wexpr_calls {Wb : World} {bw b : Nat} {R : Th → Prop} {f : Th → Bool} (hs : SeeOK Wb bw R f) (hbb : Wb.heap.size ≤ b) : ∀ (n : Nat) (e : S75), SizeOf.sizeOf e ≤ n → WExpr Wb bw b R f e := by
  intro n
  induction n with
  | zero => intro e h; obtain ⟨a, b, s, l⟩ := e; simp at h
  | succ n ih => exact fun e h => wexpr_walk hs hbb e fun y hy => ih y (rd75_size rfl hy h)
end Go.Proofs.Ytfcahachdpjfoaa.L
end
section
namespace Go.Proofs.Ytfcahachdpjfoaa.L
open Go.RowKit Go.Proofs.YtfcahachdpjfoaaW.PrintWords Go.Proofs.YtfcahachdpjfoaaW.PrintLast Go.Proofs.YtfcahachdpjfoaaW.PrintMore Go.Proofs.Ytfcahachdpjfoaa.Gr
set_option linter.unusedVariables false
set_option linter.unusedSimpArgs false
attribute [local go_sem] G.cell
theorem st_kid {Wb : World} {A : Option Addr} {n : Nat} {l : List S77} (h : k77.C Wb A n l) {k : Nat} (hk : k < n) : ∃ ad bb oo A5 c5 A9 c9 A12 c12 A13 c13, A = some ad ∧ ad.add (k * 14) = ⟨bb, oo, none⟩ ∧
    Wb.rangeAt bb oo [.int .i64 (rd_T77 l (k : Int)).f0, .string (rd_T77 l (k : Int)).f1, .int .i64 (rd_T77 l (k : Int)).f2.f0, .int .u64 (rd_T77 l (k : Int)).f2.f1, .string (rd_T77 l (k : Int)).f2.f2, .slice A5 (rd_T77 l (k : Int)).f2.f3.length c5, .int .i64 (rd_T77 l (k : Int)).f3.f0, .int .u64 (rd_T77 l (k : Int)).f3.f1, .string (rd_T77 l (k : Int)).f3.f2, .slice A9 (rd_T77 l (k : Int)).f3.f3.length c9, .int .u64 (rd_T77 l (k : Int)).f4, .int .u64 (rd_T77 l (k : Int)).f5, .slice A12 (rd_T77 l (k : Int)).f6.length c12, .slice A13 (rd_T77 l (k : Int)).f7.length c13] ∧
    (rd_T77 l (k : Int)).f2.f3.length ≤ c5 ∧ k75.C Wb A5 (rd_T77 l (k : Int)).f2.f3.length (rd_T77 l (k : Int)).f2.f3 ∧ (rd_T77 l (k : Int)).f3.f3.length ≤ c9 ∧ k75.C Wb A9 (rd_T77 l (k : Int)).f3.f3.length (rd_T77 l (k : Int)).f3.f3 ∧
    (rd_T77 l (k : Int)).f6.length ≤ c12 ∧ k77.C Wb A12 (rd_T77 l (k : Int)).f6.length (rd_T77 l (k : Int)).f6 ∧ (rd_T77 l (k : Int)).f7.length ≤ c13 ∧ k77.C Wb A13 (rd_T77 l (k : Int)).f7.length (rd_T77 l (k : Int)).f7 := by
  obtain ⟨ad, A5, c5, A9, c9, A12, c12, A13, c13, e, q0, q1, q2, q3, q4, q5, q6, q7, q8, q9, q10, q11, q12, q13, l5, g5, l9, g9, l12, g12, l13, g13⟩ := at_T77 h (k : Int) (Int.natCast_nonneg _) (by omega)
  rw [Int.toNat_natCast] at q0 q1 q2 q3 q4 q5 q6 q7 q8 q9 q10 q11 q12 q13
  have he := addr_eta q0
  refine ⟨ad, (ad.add (k * 14)).block, (ad.add (k * 14)).off, A5, c5, A9, c9, A12, c12, A13, c13, e, he, ?_, l5, g5, l9, g9, l12, g12, l13, g13⟩
  intro j v hj
  match j, hj with
  | 0, hj => simp at hj; subst hj; rw [Nat.add_zero, ← he]; exact q0
  | 1, hj => simp at hj; subst hj; exact q1
  | 2, hj => simp at hj; subst hj; exact q2
  | 3, hj => simp at hj; subst hj; exact q3
  | 4, hj => simp at hj; subst hj; exact q4
  | 5, hj => simp at hj; subst hj; exact q5
  | 6, hj => simp at hj; subst hj; exact q6
  | 7, hj => simp at hj; subst hj; exact q7
  | 8, hj => simp at hj; subst hj; exact q8
  | 9, hj => simp at hj; subst hj; exact q9
  | 10, hj => simp at hj; subst hj; exact q10
  | 11, hj => simp at hj; subst hj; exact q11
  | 12, hj => simp at hj; subst hj; exact q12
  | 13, hj => simp at hj; subst hj; exact q13
  | j + 14, hj => simp at hj
theorem range_sub {w : World} {b o : Nat} {cs ds : List Value} (k : Nat) (h : w.rangeAt b o cs) (hd : ∀ (j : Nat) (v : Value), ds[j]? = some v → cs[k + j]? = some v) : w.rangeAt b (o + k) ds := fun j v hj => by
  rw [Nat.add_assoc]
  exact h (k + j) v (hd j v hj)
theorem stThs_app (a b : List S77) (d : Nat) (lo : List ByteArray) : stThs (a ++ b) d lo = stThs a d lo ++ stThs b d lo := by
  induction a with
  | nil => simp [stThs]
  | cons x r ih => rw [List.cons_append, stThs, ih, stThs, List.append_assoc]
theorem stThs_split (l : List S77) (k : Nat) (hk : k < l.length) (d : Nat) (lo : List ByteArray) : stThs l d lo = stThs (l.take k) d lo ++ (stTh (rd_T77 l (k : Int)) d lo ++ stThs (l.drop (k + 1)) d lo) := by
  have h := stThs_app (l.take (k + 1)) (l.drop (k + 1)) d lo
  rw [List.take_append_drop, take_rd77 hk, stThs_add, List.append_assoc] at h
  exact h
theorem st_form {x : S77} (h : stB x = true) : 1 ≤ x.f0 ∧ x.f0 ≤ 5 ∧ (x.f0 = 1 ∨ x.f0 = 2 ∨ x.f0 = 5 → x.f6 = [] ∧ x.f7 = []) ∧ (x.f0 = 4 → x.f7 = []) ∧ bdB x.f6 = true ∧ bdB x.f7 = true := by
  rw [stB_eq] at h
  simp only [Bool.and_eq_true] at h
  obtain ⟨⟨h0, h6⟩, h7⟩ := h
  unfold stOwn at h0
  simp only [Bool.and_eq_true, decide_eq_true_eq] at h0
  obtain ⟨⟨⟨⟨⟨⟨⟨h1, h2⟩, _⟩, _⟩, _⟩, _⟩, h8⟩, h9⟩ := h0
  refine ⟨h1, h2, fun hk => ⟨?_, ?_⟩, fun hk => ?_, h6, h7⟩
  · rw [if_neg (by omega)] at h8; exact List.isEmpty_iff.1 h8
  · rw [if_neg (by omega)] at h9; exact List.isEmpty_iff.1 h9
  · rw [if_neg (by omega)] at h9; exact List.isEmpty_iff.1 h9
theorem bd_mem {l : List S77} (h : bdB l = true) {x : S77} (hx : x ∈ l) : stB x = true := by
  rw [bdB_all, List.all_eq_true] at h
  exact h x hx
def WStmts (Wb : World) (bw b : Nat) (R : Th → Prop) (f : Th → Bool) (l : List S77) : Prop := ∀ (W : World) (n : Nat) (lp : Value) (lo : List ByteArray) (A : Option Addr) (c d : Nat) (dI : Int), (∀ t ∈ stThs l d lo, R t) → dI = (d : Int) → bdB l = true → Below Wb.heap.size Wb W → W.heap[b]? = some (.cells #[.int .i64 n, seeV bw] 137 (0, 0)) → k77.C Wb A l.length l → l.length ≤ c → ScopeR W lp lo.reverse → n + (stThs l d lo).length < 4611686018427387904 → d + Ot.bulkTs l < 4611686018427387904 →
  Calls Try.prog 112 #[.pointer (some ⟨b, 0, none⟩), .slice A l.length c, .int .i64 dI, lp] W fun r W' => r = outL f n (stThs l d lo) ∧ ((stThs l d lo).any f = false → W'.heap[b]? = some (.cells #[.int .i64 ((n + (stThs l d lo).length : Nat) : Int), seeV bw] 137 (0, 0))) ∧ Gw Wb W W' b
set_option maxHeartbeats 4000000 in
set_option maxRecDepth 100000 in
theorem wstmts_walk {Wb : World} {bw b : Nat} {R : Th → Prop} {f : Th → Bool} (hs : SeeOK Wb bw R f) (hbb : Wb.heap.size ≤ b) (l : List S77) (ih : ∀ x ∈ l, WStmts Wb bw b R f x.f6 ∧ WStmts Wb bw b R f x.f7) : WStmts Wb bw b R f l := by
  intro W n lp lo A c d dI hRR hdI hform hB hw hC hl hsc hn hd
  obtain ⟨lq, rfl⟩ := hsc.ptr
  subst hdI
  have HS := Aside0.mk hs
  have HRR := Aside0.mk hRR
  clear hRR
  have HW := Aside0.mk hw
  have HB := Aside0.mk hB
  have HBB := Aside0.mk hbb
  have HSC := Aside0.mk hsc
  have HN := Aside0.mk (And.intro hn hd)
  have IH := Aside0.mk ih
  have HF := Aside0.mk hform
  have HC := Aside0.mk hC
  have hlm := hC.2.1
  clear hs hw hB hbb hsc hn hd ih hform hC
  go_enter Try.func112, Try.ntmps112
  go_wp2_with fail
  go_loopw [12] (fun i W3 => ∃ (k : Nat) (W2 : World), i = .int .i64 k ∧ W2 = W3 ∧ k ≤ l.length ∧ Aside0 (W2.heap[b]? = some (.cells #[.int .i64 ((n + (stThs (l.take k) d lo).length : Nat) : Int), seeV bw] 137 (0, 0)) ∧ Gw Wb W W2 b ∧ (stThs (l.take k) d lo).any f = false)) (fun i _ => l.length - (intOf i).toNat)
  case atStart => exact ⟨0, _, rfl, rfl, Nat.zero_le _, ⟨by simpa [stThs] using HW.out, ⟨HB.out, ⟨rfl, rfl, rfl, Nat.le_refl _, fun _ _ _ => rfl⟩⟩, by simp [stThs]⟩⟩
  case round =>
    obtain ⟨k, W2, rfl, rfl, hk, HK⟩ := hrel
    by_cases hlt : k < l.length
    · obtain ⟨ad, bb, oo, A5, c5, A9, c9, A12, c12, A13, c13, e1, he, hrg, l5, g5, l9, g9, l12, g12, l13, g13⟩ := st_kid HC.out hlt
      cases e1
      have hk1 : (k : Int) < (l.length : Int) := by omega
      have MEM := rd77_mem' hlt
      have IH1 := Aside0.mk (IH.out _ MEM)
      have FM := Aside0.mk (st_form (bd_mem HF.out MEM))
      have BK := Aside0.mk (And.intro (bulkTs_mem MEM) (bulkT_eq (rd_T77 l (k : Int))))
      have SP := Aside0.mk (stThs_split l k hlt d lo)
      have T := Aside0.mk (congrArg (fun l => stThs l d lo) (take_rd77 hlt))
      clear MEM
      have kk : (rd_T77 l (k : Int)).f0 = 1 ∨ (rd_T77 l (k : Int)).f0 = 2 ∨ (rd_T77 l (k : Int)).f0 = 3 ∨ (rd_T77 l (k : Int)).f0 = 4 ∨ (rd_T77 l (k : Int)).f0 = 5 := by have := FM.out.1; have := FM.out.2.1; omega
      generalize rd_T77 l (k : Int) = y at *
      have ST := Aside0.mk (show StAt Wb (.pointer (some ⟨bb, oo, none⟩)) y from ⟨⟨bb, oo, none⟩, A5, c5, A9, c9, A12, c12, A13, c13, rfl, hrg, l5, g5, l9, g9, l12, g12, l13, g13⟩)
      have EA := Aside0.mk (show ExAt Wb (.pointer (some ⟨bb, oo + 2, none⟩)) y.f2 from ⟨⟨bb, oo + 2, none⟩, A5, c5, rfl, range_sub 2 hrg (fun j v hj => by match j, hj with | 0, hj => exact hj | 1, hj => exact hj | 2, hj => exact hj | 3, hj => exact hj | j + 4, hj => simp at hj), l5, g5⟩)
      have EE := Aside0.mk (show ExAt Wb (.pointer (some ⟨bb, oo + 6, none⟩)) y.f3 from ⟨⟨bb, oo + 6, none⟩, A9, c9, rfl, range_sub 6 hrg (fun j v hj => by match j, hj with | 0, hj => exact hj | 1, hj => exact hj | 2, hj => exact hj | 3, hj => exact hj | j + 4, hj => simp at hj), l9, g9⟩)
      have RG := Aside0.mk hrg
      have K := Aside0.mk (And.intro l12 (And.intro g12 (And.intro l13 g13)))
      clear hrg l5 g5 l9 g9 l12 g12 l13 g13
      have NB := Aside0.mk (show n + (stThs (l.take k) d lo).length + ((stTh y d lo).length + (stThs (l.drop (k + 1)) d lo).length) < 4611686018427387904 by have h1 := HN.out.1; rw [SP.out, List.length_append, List.length_append] at h1; omega)
      go_wp2_with fail
      refine (tell_calls HS.out HBB.out W2 (n + (stThs (l.take k) d lo).length) (by have := NB.out; omega) (.pointer none) (.pointer (some ⟨bb, oo, none⟩)) (.pointer none) 0 (d : Int) (.pointer lq) (.stmt y d lo) (HRR.out _ (by rw [SP.out, stTh_eq]; simp)) HK.out.2.1.below HK.out.1 ⟨rfl, ST.out, rfl, rfl, HSC.out.step HW.out HK.out.2.1.grown⟩).mono ?_
      rintro _ W3 ⟨rfl, hw1, hg1⟩
      rcases bcases (f (.stmt y d lo)) with hf | hf
      · rw [hf]
        refine ⟨rfl, ?_, ?_, HK.out.2.1.trans hg1⟩
        · rw [SP.out, outL_add HK.out.2.2, stTh_eq, List.cons_append, outL, if_pos hf]
        · intro h
          rw [SP.out, stTh_eq, List.any_append, List.any_append, List.any_cons, hf] at h
          simp at h
      rw [hf]
      have H1 := Aside0.mk (show W3.heap[b]? = some (.cells #[.int .i64 ((n + (stThs (l.take k) d lo ++ [Th.stmt y d lo]).length : Nat) : Int), seeV bw] 137 (0, 0)) ∧ Gw Wb W W3 b ∧ (stThs (l.take k) d lo ++ [Th.stmt y d lo]).any f = false from ⟨by rw [List.length_append, List.length_singleton, ← Nat.add_assoc]; exact hw1, HK.out.2.1.trans hg1, by rw [List.any_append, HK.out.2.2]; simp [hf]⟩)
      clear hw1 hg1 hf
      rw [show outE false (n + (stThs (l.take k) d lo).length) = .returned (.tuple #[]) from rfl]
      have q0 : W3.cell? ⟨bb, oo, none⟩ = some (.int .i64 y.f0) := held_in H1.out.2.1.below (RG.out 0 _ rfl)
      rcases kk with h0 | h0 | h0 | h0 | h0
      · rw [h0] at q0
        have H0 := Aside0.mk h0
        clear h0
        have SPK := Aside0.mk (show stTh y d lo = Th.stmt y d lo :: ((exTh y.f3 lo)) by
            have FE := FM.out.2.2.1 (by have := H0.out; omega)
            rw [stTh_eq]
            simp [H0.out, FE.1, FE.2, stThs])
        go_wp2_with fail
        have FULL := Aside0.mk (show stThs l d lo = (stThs (l.take k) d lo ++ [Th.stmt y d lo]) ++ (exTh y.f3 lo ++ (stThs (l.drop (k + 1)) d lo)) by rw [SP.out, SPK.out]; simp)
        have BN := Aside0.mk (show n + (stThs (l.take k) d lo ++ [Th.stmt y d lo]).length + (exTh y.f3 lo).length < 4611686018427387904 by have h1 := HN.out.1; rw [FULL.out] at h1; simp only [List.length_append] at h1 ⊢; omega)
        have C := wexpr_calls HS.out HBB.out _ y.f3 (Nat.le_refl _) W3 (n + (stThs (l.take k) d lo ++ [Th.stmt y d lo]).length) (.pointer (some ⟨bb, oo + 6, none⟩)) (.pointer lq) lo (fun t ht => HRR.out t (by rw [FULL.out]; simp [ht])) H1.out.2.1.below H1.out.1 EE.out (HSC.out.step HW.out H1.out.2.1.grown) (by have := BN.out; rw [exTh_len] at this; exact this)
        refine C.mono ?_
        clear C
        rintro _ W4 ⟨rfl, hw3, hg3⟩
        rcases bcases ((exTh y.f3 lo).any f) with ha | ha
        · obtain ⟨mm, hm⟩ := outL_bad (n := n + (stThs (l.take k) d lo ++ [Th.stmt y d lo]).length) ha
          rw [hm]
          refine ⟨rfl, ?_, ?_, H1.out.2.1.trans hg3⟩
          · rw [FULL.out, outL_add H1.out.2.2, outL_head ha, ← hm]
          · intro h
            rw [FULL.out] at h
            simp [ha] at h
        have H2 := Aside0.mk (show W4.heap[b]? = some (.cells #[.int .i64 ((n + (stThs (l.take k) d lo ++ [Th.stmt y d lo] ++ exTh y.f3 lo).length : Nat) : Int), seeV bw] 137 (0, 0)) ∧ Gw Wb W W4 b ∧ (stThs (l.take k) d lo ++ [Th.stmt y d lo] ++ exTh y.f3 lo).any f = false from ⟨by rw [List.length_append, exTh_len, ← Nat.add_assoc]; exact hw3 ha, H1.out.2.1.trans hg3, by rw [List.any_append, H1.out.2.2, ha]; rfl⟩)
        rw [outL_ret ha]
        clear ha hw3 hg3 FULL BN
        go_wp2_with fail
        have HX := Aside0.mk (show stThs (l.take k) d lo ++ [Th.stmt y d lo] ++ exTh y.f3 lo = stThs (l.take (k + 1)) d lo by
            have h2 := T.out
            simp only [stThs_add] at h2
            rw [h2, SPK.out] <;> simp)
        refine ⟨⟨k + 1, W4, by go_num, rfl, by omega, ⟨?_, H2.out.2.1, ?_⟩⟩, by simp [intOf]; omega⟩
        · rw [← HX.out]
          exact H2.out.1
        · rw [← HX.out]
          exact H2.out.2.2
      · rw [h0] at q0
        have H0 := Aside0.mk h0
        clear h0
        have SPK := Aside0.mk (show stTh y d lo = Th.stmt y d lo :: ((exTh y.f2 lo) ++ (exTh y.f3 lo)) by
            have FE := FM.out.2.2.1 (by have := H0.out; omega)
            rw [stTh_eq]
            simp [H0.out, FE.1, FE.2, stThs])
        go_wp2_with fail
        have FULL := Aside0.mk (show stThs l d lo = (stThs (l.take k) d lo ++ [Th.stmt y d lo]) ++ (exTh y.f2 lo ++ (exTh y.f3 lo ++ (stThs (l.drop (k + 1)) d lo))) by rw [SP.out, SPK.out]; simp)
        have BN := Aside0.mk (show n + (stThs (l.take k) d lo ++ [Th.stmt y d lo]).length + (exTh y.f2 lo).length < 4611686018427387904 by have h1 := HN.out.1; rw [FULL.out] at h1; simp only [List.length_append] at h1 ⊢; omega)
        have C := wexpr_calls HS.out HBB.out _ y.f2 (Nat.le_refl _) W3 (n + (stThs (l.take k) d lo ++ [Th.stmt y d lo]).length) (.pointer (some ⟨bb, oo + 2, none⟩)) (.pointer lq) lo (fun t ht => HRR.out t (by rw [FULL.out]; simp [ht])) H1.out.2.1.below H1.out.1 EA.out (HSC.out.step HW.out H1.out.2.1.grown) (by have := BN.out; rw [exTh_len] at this; exact this)
        refine C.mono ?_
        clear C
        rintro _ W4 ⟨rfl, hw3, hg3⟩
        rcases bcases ((exTh y.f2 lo).any f) with ha | ha
        · obtain ⟨mm, hm⟩ := outL_bad (n := n + (stThs (l.take k) d lo ++ [Th.stmt y d lo]).length) ha
          rw [hm]
          refine ⟨rfl, ?_, ?_, H1.out.2.1.trans hg3⟩
          · rw [FULL.out, outL_add H1.out.2.2, outL_head ha, ← hm]
          · intro h
            rw [FULL.out] at h
            simp [ha] at h
        have H2 := Aside0.mk (show W4.heap[b]? = some (.cells #[.int .i64 ((n + (stThs (l.take k) d lo ++ [Th.stmt y d lo] ++ exTh y.f2 lo).length : Nat) : Int), seeV bw] 137 (0, 0)) ∧ Gw Wb W W4 b ∧ (stThs (l.take k) d lo ++ [Th.stmt y d lo] ++ exTh y.f2 lo).any f = false from ⟨by rw [List.length_append, exTh_len, ← Nat.add_assoc]; exact hw3 ha, H1.out.2.1.trans hg3, by rw [List.any_append, H1.out.2.2, ha]; rfl⟩)
        rw [outL_ret ha]
        clear ha hw3 hg3 FULL BN
        go_wp2_with fail
        have FULL := Aside0.mk (show stThs l d lo = (stThs (l.take k) d lo ++ [Th.stmt y d lo] ++ exTh y.f2 lo) ++ (exTh y.f3 lo ++ (stThs (l.drop (k + 1)) d lo)) by rw [SP.out, SPK.out]; simp)
        have BN := Aside0.mk (show n + (stThs (l.take k) d lo ++ [Th.stmt y d lo] ++ exTh y.f2 lo).length + (exTh y.f3 lo).length < 4611686018427387904 by have h1 := HN.out.1; rw [FULL.out] at h1; simp only [List.length_append] at h1 ⊢; omega)
        have C := wexpr_calls HS.out HBB.out _ y.f3 (Nat.le_refl _) W4 (n + (stThs (l.take k) d lo ++ [Th.stmt y d lo] ++ exTh y.f2 lo).length) (.pointer (some ⟨bb, oo + 6, none⟩)) (.pointer lq) lo (fun t ht => HRR.out t (by rw [FULL.out]; simp [ht])) H2.out.2.1.below H2.out.1 EE.out (HSC.out.step HW.out H2.out.2.1.grown) (by have := BN.out; rw [exTh_len] at this; exact this)
        refine C.mono ?_
        clear C
        rintro _ W5 ⟨rfl, hw3, hg3⟩
        rcases bcases ((exTh y.f3 lo).any f) with ha | ha
        · obtain ⟨mm, hm⟩ := outL_bad (n := n + (stThs (l.take k) d lo ++ [Th.stmt y d lo] ++ exTh y.f2 lo).length) ha
          rw [hm]
          refine ⟨rfl, ?_, ?_, H2.out.2.1.trans hg3⟩
          · rw [FULL.out, outL_add H2.out.2.2, outL_head ha, ← hm]
          · intro h
            rw [FULL.out] at h
            simp [ha] at h
        have H3 := Aside0.mk (show W5.heap[b]? = some (.cells #[.int .i64 ((n + (stThs (l.take k) d lo ++ [Th.stmt y d lo] ++ exTh y.f2 lo ++ exTh y.f3 lo).length : Nat) : Int), seeV bw] 137 (0, 0)) ∧ Gw Wb W W5 b ∧ (stThs (l.take k) d lo ++ [Th.stmt y d lo] ++ exTh y.f2 lo ++ exTh y.f3 lo).any f = false from ⟨by rw [List.length_append, exTh_len, ← Nat.add_assoc]; exact hw3 ha, H2.out.2.1.trans hg3, by rw [List.any_append, H2.out.2.2, ha]; rfl⟩)
        rw [outL_ret ha]
        clear ha hw3 hg3 FULL BN
        go_wp2_with fail
        have HX := Aside0.mk (show stThs (l.take k) d lo ++ [Th.stmt y d lo] ++ exTh y.f2 lo ++ exTh y.f3 lo = stThs (l.take (k + 1)) d lo by
            have h2 := T.out
            simp only [stThs_add] at h2
            rw [h2, SPK.out] <;> simp)
        refine ⟨⟨k + 1, W5, by go_num, rfl, by omega, ⟨?_, H3.out.2.1, ?_⟩⟩, by simp [intOf]; omega⟩
        · rw [← HX.out]
          exact H3.out.1
        · rw [← HX.out]
          exact H3.out.2.2
      · rw [h0] at q0
        have H0 := Aside0.mk h0
        clear h0
        have SPK := Aside0.mk (show stTh y d lo = Th.stmt y d lo :: ((exTh y.f3 lo) ++ (stThs y.f6 (d + 1) lo) ++ (stThs y.f7 (d + 1) lo)) by
            skip
            rw [stTh_eq]
            simp [H0.out, inLoop])
        have KQ := Aside0.mk (And.intro (RG.out 12 _ rfl) (RG.out 13 _ rfl))
        go_wp2_with fail
        have FULL := Aside0.mk (show stThs l d lo = (stThs (l.take k) d lo ++ [Th.stmt y d lo]) ++ (exTh y.f3 lo ++ (stThs y.f6 (d + 1) lo ++ (stThs y.f7 (d + 1) lo ++ (stThs (l.drop (k + 1)) d lo)))) by rw [SP.out, SPK.out]; simp)
        have BN := Aside0.mk (show n + (stThs (l.take k) d lo ++ [Th.stmt y d lo]).length + (exTh y.f3 lo).length < 4611686018427387904 by have h1 := HN.out.1; rw [FULL.out] at h1; simp only [List.length_append] at h1 ⊢; omega)
        have C := wexpr_calls HS.out HBB.out _ y.f3 (Nat.le_refl _) W3 (n + (stThs (l.take k) d lo ++ [Th.stmt y d lo]).length) (.pointer (some ⟨bb, oo + 6, none⟩)) (.pointer lq) lo (fun t ht => HRR.out t (by rw [FULL.out]; simp [ht])) H1.out.2.1.below H1.out.1 EE.out (HSC.out.step HW.out H1.out.2.1.grown) (by have := BN.out; rw [exTh_len] at this; exact this)
        refine C.mono ?_
        clear C
        rintro _ W4 ⟨rfl, hw3, hg3⟩
        rcases bcases ((exTh y.f3 lo).any f) with ha | ha
        · obtain ⟨mm, hm⟩ := outL_bad (n := n + (stThs (l.take k) d lo ++ [Th.stmt y d lo]).length) ha
          rw [hm]
          refine ⟨rfl, ?_, ?_, H1.out.2.1.trans hg3⟩
          · rw [FULL.out, outL_add H1.out.2.2, outL_head ha, ← hm]
          · intro h
            rw [FULL.out] at h
            simp [ha] at h
        have H2 := Aside0.mk (show W4.heap[b]? = some (.cells #[.int .i64 ((n + (stThs (l.take k) d lo ++ [Th.stmt y d lo] ++ exTh y.f3 lo).length : Nat) : Int), seeV bw] 137 (0, 0)) ∧ Gw Wb W W4 b ∧ (stThs (l.take k) d lo ++ [Th.stmt y d lo] ++ exTh y.f3 lo).any f = false from ⟨by rw [List.length_append, exTh_len, ← Nat.add_assoc]; exact hw3 ha, H1.out.2.1.trans hg3, by rw [List.any_append, H1.out.2.2, ha]; rfl⟩)
        rw [outL_ret ha]
        clear ha hw3 hg3 FULL BN
        have q20 : W4.cell? ⟨bb, oo + 12, none⟩ = some (.slice A12 y.f6.length c12) := held_in H2.out.2.1.below KQ.out.1
        go_wp2_with fail
        have FULL := Aside0.mk (show stThs l d lo = (stThs (l.take k) d lo ++ [Th.stmt y d lo] ++ exTh y.f3 lo) ++ (stThs y.f6 (d + 1) lo ++ (stThs y.f7 (d + 1) lo ++ (stThs (l.drop (k + 1)) d lo))) by rw [SP.out, SPK.out]; simp)
        have BN := Aside0.mk (show n + (stThs (l.take k) d lo ++ [Th.stmt y d lo] ++ exTh y.f3 lo).length + (stThs y.f6 (d + 1) lo).length < 4611686018427387904 by have h1 := HN.out.1; rw [FULL.out] at h1; simp only [List.length_append] at h1 ⊢; omega)
        have C := IH1.out.1 W4 (n + (stThs (l.take k) d lo ++ [Th.stmt y d lo] ++ exTh y.f3 lo).length) (.pointer lq) lo A12 c12 (d + 1) (wrap64 ((d : Int) + 1)) (fun t ht => HRR.out t (by rw [FULL.out]; simp [ht])) (wrapN (by have := HN.out.2; omega)) FM.out.2.2.2.2.1 H2.out.2.1.below H2.out.1 K.out.2.1 K.out.1 (HSC.out.step HW.out H2.out.2.1.grown) BN.out (by have h1 := HN.out.2; have h2 := BK.out; omega)
        refine C.mono ?_
        clear C
        rintro _ W5 ⟨rfl, hw3, hg3⟩
        rcases bcases ((stThs y.f6 (d + 1) lo).any f) with ha | ha
        · obtain ⟨mm, hm⟩ := outL_bad (n := n + (stThs (l.take k) d lo ++ [Th.stmt y d lo] ++ exTh y.f3 lo).length) ha
          rw [hm]
          refine ⟨rfl, ?_, ?_, H2.out.2.1.trans hg3⟩
          · rw [FULL.out, outL_add H2.out.2.2, outL_head ha, ← hm]
          · intro h
            rw [FULL.out] at h
            simp [ha] at h
        have H3 := Aside0.mk (show W5.heap[b]? = some (.cells #[.int .i64 ((n + (stThs (l.take k) d lo ++ [Th.stmt y d lo] ++ exTh y.f3 lo ++ stThs y.f6 (d + 1) lo).length : Nat) : Int), seeV bw] 137 (0, 0)) ∧ Gw Wb W W5 b ∧ (stThs (l.take k) d lo ++ [Th.stmt y d lo] ++ exTh y.f3 lo ++ stThs y.f6 (d + 1) lo).any f = false from ⟨by rw [List.length_append, ← Nat.add_assoc]; exact hw3 ha, H2.out.2.1.trans hg3, by rw [List.any_append, H2.out.2.2, ha]; rfl⟩)
        rw [outL_ret ha]
        clear ha hw3 hg3 FULL BN
        have q21 : W5.cell? ⟨bb, oo + 13, none⟩ = some (.slice A13 y.f7.length c13) := held_in H3.out.2.1.below KQ.out.2
        go_wp2_with fail
        have FULL := Aside0.mk (show stThs l d lo = (stThs (l.take k) d lo ++ [Th.stmt y d lo] ++ exTh y.f3 lo ++ stThs y.f6 (d + 1) lo) ++ (stThs y.f7 (d + 1) lo ++ (stThs (l.drop (k + 1)) d lo)) by rw [SP.out, SPK.out]; simp)
        have BN := Aside0.mk (show n + (stThs (l.take k) d lo ++ [Th.stmt y d lo] ++ exTh y.f3 lo ++ stThs y.f6 (d + 1) lo).length + (stThs y.f7 (d + 1) lo).length < 4611686018427387904 by have h1 := HN.out.1; rw [FULL.out] at h1; simp only [List.length_append] at h1 ⊢; omega)
        have C := IH1.out.2 W5 (n + (stThs (l.take k) d lo ++ [Th.stmt y d lo] ++ exTh y.f3 lo ++ stThs y.f6 (d + 1) lo).length) (.pointer lq) lo A13 c13 (d + 1) (wrap64 ((d : Int) + 1)) (fun t ht => HRR.out t (by rw [FULL.out]; simp [ht])) (wrapN (by have := HN.out.2; omega)) FM.out.2.2.2.2.2 H3.out.2.1.below H3.out.1 K.out.2.2.2 K.out.2.2.1 (HSC.out.step HW.out H3.out.2.1.grown) BN.out (by have h1 := HN.out.2; have h2 := BK.out; omega)
        refine C.mono ?_
        clear C
        rintro _ W6 ⟨rfl, hw3, hg3⟩
        rcases bcases ((stThs y.f7 (d + 1) lo).any f) with ha | ha
        · obtain ⟨mm, hm⟩ := outL_bad (n := n + (stThs (l.take k) d lo ++ [Th.stmt y d lo] ++ exTh y.f3 lo ++ stThs y.f6 (d + 1) lo).length) ha
          rw [hm]
          refine ⟨rfl, ?_, ?_, H3.out.2.1.trans hg3⟩
          · rw [FULL.out, outL_add H3.out.2.2, outL_head ha, ← hm]
          · intro h
            rw [FULL.out] at h
            simp [ha] at h
        have H4 := Aside0.mk (show W6.heap[b]? = some (.cells #[.int .i64 ((n + (stThs (l.take k) d lo ++ [Th.stmt y d lo] ++ exTh y.f3 lo ++ stThs y.f6 (d + 1) lo ++ stThs y.f7 (d + 1) lo).length : Nat) : Int), seeV bw] 137 (0, 0)) ∧ Gw Wb W W6 b ∧ (stThs (l.take k) d lo ++ [Th.stmt y d lo] ++ exTh y.f3 lo ++ stThs y.f6 (d + 1) lo ++ stThs y.f7 (d + 1) lo).any f = false from ⟨by rw [List.length_append, ← Nat.add_assoc]; exact hw3 ha, H3.out.2.1.trans hg3, by rw [List.any_append, H3.out.2.2, ha]; rfl⟩)
        rw [outL_ret ha]
        clear ha hw3 hg3 FULL BN
        go_wp2_with fail
        have HX := Aside0.mk (show stThs (l.take k) d lo ++ [Th.stmt y d lo] ++ exTh y.f3 lo ++ stThs y.f6 (d + 1) lo ++ stThs y.f7 (d + 1) lo = stThs (l.take (k + 1)) d lo by
            have h2 := T.out
            simp only [stThs_add] at h2
            rw [h2, SPK.out] <;> simp)
        refine ⟨⟨k + 1, W6, by go_num, rfl, by omega, ⟨?_, H4.out.2.1, ?_⟩⟩, by simp [intOf]; omega⟩
        · rw [← HX.out]
          exact H4.out.1
        · rw [← HX.out]
          exact H4.out.2.2
      · rw [h0] at q0
        have H0 := Aside0.mk h0
        clear h0
        have SPK := Aside0.mk (show stTh y d lo = Th.stmt y d lo :: ((stThs y.f6 (d + 1) (lo ++ [y.f1]))) by
            have FE := FM.out.2.2.2.1 H0.out
            rw [stTh_eq]
            simp [H0.out, FE, stThs, inLoop])
        have FULL := Aside0.mk (show stThs l d lo = (stThs (l.take k) d lo ++ [Th.stmt y d lo]) ++ (stThs y.f6 (d + 1) (lo ++ [y.f1]) ++ (stThs (l.drop (k + 1)) d lo)) by rw [SP.out, SPK.out]; simp)
        have BN := Aside0.mk (show n + (stThs (l.take k) d lo ++ [Th.stmt y d lo]).length + (stThs y.f6 (d + 1) (lo ++ [y.f1])).length < 4611686018427387904 by have h1 := HN.out.1; rw [FULL.out] at h1; simp only [List.length_append] at h1 ⊢; omega)
        go_upto_region 15 with (fail)
        have t12 : ∀ g' : G W3, g'.W.cell? ⟨bb, oo + 12, none⟩ = some (.slice A12 y.f6.length c12) := fun g' => held_in g'.below (held_in H1.out.2.1.below (RG.out 12 _ rfl))
        have t1 : ∀ g' : G W3, g'.W.cell? ⟨bb, oo + 1, none⟩ = some (.string y.f1) := fun g' => held_in g'.below (held_in H1.out.2.1.below (RG.out 1 _ rfl))
        refine start_ (n := 15) (S := fun w' => ∃ g' : G W3, w' = g'.W) (ds := [14]) #[false, false, false, false, false, false, false, false, false, false, false, false, false, false, false] (by kernel_rfl) rfl rfl ⟨mkG (Below.refl _ _).drew, rfl⟩ (fun hHeld => ?_)
        obtain ⟨gd, hgd⟩ := hHeld
        rw [hgd]
        clear hgd
        refine pure_ (i := 0) (N := some 72) (v := ?_) (a' := ?_) #[true, false, false, false, false, false, false, false, false, false, false, false, false, false, false] rfl rfl (by kernel_rfl) (fun _ _ _ h => h) (Or.inl ⟨by rfl, ?_⟩) ?_ ?_
        rotate_left
        · intro w'
          go_simp
          with_reducible rfl
        rotate_left
        · simp only [Act.put, List.setIfInBounds_toArray, List.set_cons_zero, List.set_cons_succ, i64_w, i32_w]
          rfl
        refine pure_ (i := 1) (N := some 73) (v := ?_) (a' := ?_) #[true, true, false, false, false, false, false, false, false, false, false, false, false, false, false] rfl rfl (by kernel_rfl) (fun _ _ _ h => h) (Or.inl ⟨by rfl, ?_⟩) ?_ ?_
        rotate_left
        · intro w'
          go_simp
          with_reducible rfl
        rotate_left
        · simp only [Act.put, List.setIfInBounds_toArray, List.set_cons_zero, List.set_cons_succ, i64_w, i32_w]
          rfl
        refine pure_ (i := 2) (N := some 74) (v := ?_) (a' := ?_) #[true, true, true, false, false, false, false, false, false, false, false, false, false, false, false] rfl rfl (by kernel_rfl) (fun _ _ _ h => h) (Or.inl ⟨by rfl, ?_⟩) ?_ ?_
        rotate_left
        · intro w'
          go_simp
          with_reducible rfl
        rotate_left
        · simp only [Act.put, List.setIfInBounds_toArray, List.set_cons_zero, List.set_cons_succ, i64_w, i32_w]
          rfl
        refine pure_ (i := 3) (N := some 75) (v := ?_) (a' := ?_) #[true, true, true, true, false, false, false, false, false, false, false, false, false, false, false] rfl rfl (by kernel_rfl) (fun _ _ _ h => h) (Or.inl ⟨by rfl, ?_⟩) ?_ ?_
        rotate_left
        · intro w'
          go_simp
          with_reducible rfl
        rotate_left
        · simp only [Act.put, List.setIfInBounds_toArray, List.set_cons_zero, List.set_cons_succ, i64_w, i32_w]
          rfl
        refine pure_ (i := 5) (N := some 77) (v := ?_) (a' := ?_) #[true, true, true, true, false, true, false, false, false, false, false, false, false, false, false] rfl rfl (by kernel_rfl) (fun _ _ _ h => h) (Or.inl ⟨by rfl, ?_⟩) ?_ ?_
        rotate_left
        · intro w'
          go_simp
          with_reducible rfl
        rotate_left
        · simp only [Act.put, List.setIfInBounds_toArray, List.set_cons_zero, List.set_cons_succ, i64_w, i32_w]
          rfl
        refine pure_ (i := 6) (N := some 78) (v := ?_) (a' := ?_) #[true, true, true, true, false, true, true, false, false, false, false, false, false, false, false] rfl rfl (by kernel_rfl) (fun _ _ _ h => h) (Or.inl ⟨by rfl, ?_⟩) ?_ ?_
        rotate_left
        · intro w'
          go_simp
          with_reducible rfl
        rotate_left
        · simp only [Act.put, List.setIfInBounds_toArray, List.set_cons_zero, List.set_cons_succ, i64_w, i32_w]
          rfl
        refine pure_ (i := 7) (N := some 79) (v := ?_) (a' := ?_) #[true, true, true, true, false, true, true, true, false, false, false, false, false, false, false] rfl rfl (by kernel_rfl) (fun _ _ _ h => h) (Or.inl ⟨by rfl, ?_⟩) ?_ ?_
        rotate_left
        · intro w'
          go_simp
          with_reducible rfl
        rotate_left
        · simp only [Act.put, List.setIfInBounds_toArray, List.set_cons_zero, List.set_cons_succ, i64_w, i32_w]
          rfl
        refine pure_ (i := 8) (N := some 80) (v := ?_) (a' := ?_) #[true, true, true, true, false, true, true, true, true, false, false, false, false, false, false] rfl rfl (by kernel_rfl) (fun _ _ _ h => h) (Or.inl ⟨by rfl, ?_⟩) ?_ ?_
        rotate_left
        · intro w'
          go_simp
          with_reducible rfl
        rotate_left
        · simp only [Act.put, List.setIfInBounds_toArray, List.set_cons_zero, List.set_cons_succ, i64_w, i32_w]
          rfl
        refine pure_ (i := 9) (N := some 81) (v := ?_) (a' := ?_) #[true, true, true, true, false, true, true, true, true, true, false, false, false, false, false] rfl rfl (by kernel_rfl) (fun _ _ _ h => h) (Or.inl ⟨by rfl, ?_⟩) ?_ ?_
        rotate_left
        · intro w'
          go_simp
          with_reducible rfl
        rotate_left
        · simp only [Act.put, List.setIfInBounds_toArray, List.set_cons_zero, List.set_cons_succ, i64_w, i32_w]
          rfl
        refine pure_ (i := 11) (N := some 83) (v := ?_) (a' := ?_) #[true, true, true, true, false, true, true, true, true, true, false, true, false, false, false] rfl rfl (by kernel_rfl) (fun _ _ _ h => h) (Or.inl ⟨by rfl, ?_⟩) ?_ ?_
        rotate_left
        · intro w'
          go_simp
          with_reducible rfl
        rotate_left
        · simp only [Act.put, List.setIfInBounds_toArray, List.set_cons_zero, List.set_cons_succ, i64_w, i32_w]
          rfl
        refine take_ (i := 4) (N := some 76) (v := ?_) (a' := ?_) #[true, true, true, true, true, true, true, true, true, true, false, true, false, false, false] rfl rfl (by kernel_rfl) (fun _ _ _ h => h) (Or.inl ⟨by rfl, ?_⟩) ⟨gd, rfl⟩ ?_ ?_
        rotate_left
        · rintro w' ⟨g', rfl⟩
          go_simp
          with_reducible rfl
        rotate_left
        · simp only [Act.put, List.setIfInBounds_toArray, List.set_cons_zero, List.set_cons_succ, i64_w, i32_w]
          rfl
        refine take_ (i := 10) (N := some 82) (v := ?_) (a' := ?_) #[true, true, true, true, true, true, true, true, true, true, true, true, false, false, false] rfl rfl (by kernel_rfl) (fun _ _ _ h => h) (Or.inl ⟨by rfl, ?_⟩) ⟨gd, rfl⟩ ?_ ?_
        rotate_left
        · rintro w' ⟨g', rfl⟩
          go_simp
          with_reducible rfl
        rotate_left
        · simp only [Act.put, List.setIfInBounds_toArray, List.set_cons_zero, List.set_cons_succ, i64_w, i32_w]
          rfl
        refine pure_ (i := 12) (N := some 84) (v := ?_) (a' := ?_) #[true, true, true, true, true, true, true, true, true, true, true, true, true, false, false] rfl rfl (by kernel_rfl) (fun _ _ _ h => h) (Or.inl ⟨by rfl, ?_⟩) ?_ ?_
        rotate_left
        · intro w'
          go_simp
          with_reducible rfl
        rotate_left
        · simp only [Act.put, List.setIfInBounds_toArray, List.set_cons_zero, List.set_cons_succ, i64_w, i32_w]
          rfl
        refine one_ (i := 13) (N := some 85) #[true, true, true, true, true, true, true, true, true, true, true, true, true, true, false] rfl rfl (by kernel_rfl) (by simp) (fun K9 hK => ?_)
        refine box_step ?hg (N := 85) ?hd (cs := #[.string y.f1, .pointer lq]) (t := 124) ?hr ?_; (case hd => rfl); (case hg => rfl); (case hr => first | (go_simp; done) | (go_simp; rfl))
        intro b9 hb9 w9 hbx hbl
        obtain ⟨ge, rfl⟩ : ∃ g' : G W3, w9 = g'.W := ⟨mkG (gd.below.trans (hbl.mono gd.below.size)), rfl⟩
        refine hK.out _ _ ⟨ge, rfl⟩ (fun _ => ?_)
        clear hK K9
        refine norm_ (a' := ?_) ?_ ?_
        rotate_left
        · show Act.put _ (some 85) _ = _
          simp only [Act.put, List.setIfInBounds_toArray, List.set_cons_zero, List.set_cons_succ, i64_w, i32_w]
          rfl
        have HE := Aside0.mk (show Gw Wb W ge.W b from H1.out.2.1.trans (Gw.of_below b H1.out.2.1.below ge.below))
        have HEB := Aside0.mk (blk_below H1.out.1 ge.below)
        have HES := Aside0.mk (show ScopeR ge.W (.pointer (some ⟨b9, 0, none⟩)) (lo ++ [y.f1]).reverse by rw [List.reverse_append]; exact ⟨b9, .pointer lq, rfl, hbx, (HSC.out.step HW.out H1.out.2.1.grown).below ge.below⟩)
        refine last_ (i := 14) (N := some 86) #[true, true, true, true, true, true, true, true, true, true, true, true, true, true, true] rfl rfl (by kernel_rfl) (by simp) (fun K9 hK => ?_)
        refine callP_ 112 #[.pointer (some ⟨b, 0, none⟩), .slice A12 y.f6.length c12, .int .i64 (wrap64 ((d : Int) + 1)), .pointer (some ⟨b9, 0, none⟩)] (by rfl) rfl (by first | (go_simp; done) | (go_simp; rfl)) ?_
        have C := IH1.out.1 ge.W (n + (stThs (l.take k) d lo ++ [Th.stmt y d lo]).length) (.pointer (some ⟨b9, 0, none⟩)) (lo ++ [y.f1]) A12 c12 (d + 1) (wrap64 ((d : Int) + 1)) (fun t ht => HRR.out t (by rw [FULL.out]; simp [ht])) (wrapN (by have := HN.out.2; omega)) FM.out.2.2.2.2.1 HE.out.below HEB.out K.out.2.1 K.out.1 HES.out BN.out (by have h1 := HN.out.2; have h2 := BK.out; omega)
        refine C.mono ?_
        clear C
        rintro _ W4 ⟨rfl, hw3, hg3⟩
        rcases bcases ((stThs y.f6 (d + 1) (lo ++ [y.f1])).any f) with ha | ha
        · right
          obtain ⟨mm, hm⟩ := outL_bad (n := n + (stThs (l.take k) d lo ++ [Th.stmt y d lo]).length) ha
          rw [hm]
          refine ⟨_, rfl, rfl, ?_, ?_, HE.out.trans hg3⟩
          · rw [FULL.out, outL_add H1.out.2.2, outL_head ha, ← hm]
          · intro h
            rw [FULL.out] at h
            simp [ha] at h
        have H2 := Aside0.mk (show W4.heap[b]? = some (.cells #[.int .i64 ((n + (stThs (l.take k) d lo ++ [Th.stmt y d lo] ++ stThs y.f6 (d + 1) (lo ++ [y.f1])).length : Nat) : Int), seeV bw] 137 (0, 0)) ∧ Gw Wb W W4 b ∧ (stThs (l.take k) d lo ++ [Th.stmt y d lo] ++ stThs y.f6 (d + 1) (lo ++ [y.f1])).any f = false from ⟨by rw [List.length_append, ← Nat.add_assoc]; exact hw3 ha, HE.out.trans hg3, by rw [List.any_append, H1.out.2.2, ha]; rfl⟩)
        left
        refine ⟨.tuple #[], by rw [outL_ret ha], ?_⟩
        clear ha hw3 hg3
        refine hK.out _ _ ?_
        clear hK K9
        refine norm_ (a' := ?_) ?_ ?_
        rotate_left
        · show Act.put _ (some 86) _ = _
          simp only [Act.put, List.setIfInBounds_toArray, List.set_cons_zero, List.set_cons_succ, i64_w, i32_w]
          rfl
        refine done_ (by kernel_rfl) ?_
        clear t12 t1
        go_wp2_with fail
        have HX := Aside0.mk (show stThs (l.take k) d lo ++ [Th.stmt y d lo] ++ stThs y.f6 (d + 1) (lo ++ [y.f1]) = stThs (l.take (k + 1)) d lo by
            have h2 := T.out
            simp only [stThs_add] at h2
            rw [h2, SPK.out] <;> simp)
        refine ⟨⟨k + 1, W4, by go_num, rfl, by omega, ⟨?_, H2.out.2.1, ?_⟩⟩, by simp [intOf]; omega⟩
        · rw [← HX.out]
          exact H2.out.1
        · rw [← HX.out]
          exact H2.out.2.2
      · rw [h0] at q0
        have H0 := Aside0.mk h0
        clear h0
        have SPK := Aside0.mk (show stTh y d lo = Th.stmt y d lo :: ([]) by
            have FE := FM.out.2.2.1 (by have := H0.out; omega)
            rw [stTh_eq]
            simp [H0.out, FE.1, FE.2, stThs])
        go_wp2_with fail
        have HX := Aside0.mk (show stThs (l.take k) d lo ++ [Th.stmt y d lo] = stThs (l.take (k + 1)) d lo by
            have h2 := T.out
            simp only [stThs_add] at h2
            rw [h2, SPK.out] <;> simp)
        refine ⟨⟨k + 1, W3, by go_num, rfl, by omega, ⟨?_, H1.out.2.1, ?_⟩⟩, by simp [intOf]; omega⟩
        · rw [← HX.out]
          exact H1.out.1
        · rw [← HX.out]
          exact H1.out.2.2
    · go_wp2_with fail
      first | go_end0 | skip
      have hke : k = l.length := by omega
      have h1 := HK.out
      rw [hke, List.take_length] at h1
      exact ⟨(outL_ret h1.2.2).symm, fun _ => h1.1, h1.2.1⟩
theorem wstmts_calls {Wb : World} {bw b : Nat} {R : Th → Prop} {f : Th → Bool} (hs : SeeOK Wb bw R f) (hbb : Wb.heap.size ≤ b) : ∀ (n : Nat) (l : List S77), SizeOf.sizeOf l ≤ n → WStmts Wb bw b R f l := by
  intro n
  induction n with
  | zero => intro l h; cases l <;> simp at h <;> omega
  | succ n ih =>
    intro l h
    refine wstmts_walk hs hbb l fun x hx => ?_
    have h1 := List.sizeOf_lt_of_mem hx
    obtain ⟨a, b, c, d, e, f, g, k⟩ := x
    simp only [S77.mk.sizeOf_spec] at h1
    exact ⟨ih _ (by show SizeOf.sizeOf g ≤ n; omega), ih _ (by show SizeOf.sizeOf k ≤ n; omega)⟩
end Go.Proofs.Ytfcahachdpjfoaa.L
end
