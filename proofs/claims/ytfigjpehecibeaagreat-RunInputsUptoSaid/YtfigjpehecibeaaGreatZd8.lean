/- Texts joined by a program of mine: Ln Lo Ot Lp Ws Wk Wp Wn. -/
import Derived.Test.YtfigjpehecibeaaGreatRows
import Derived.Test.YtfigjpehecibeaaGreatZd2
import Derived.Test.YtfigjpehecibeaaGreatZd4
import Derived.Test.YtfigjpehecibeaaGreatZd6
import Derived.Test.YtfigjpehecibeaaGreatZd7
section
namespace Go.Proofs.YtfigjpehecibeaaGreat.L
open Go.RowKit Go.Proofs.YtfigjpehecibeaaGreatW.PrintWords Go.Proofs.YtfigjpehecibeaaGreatW.PrintLast Go.Proofs.YtfigjpehecibeaaGreatW.PrintMore Go.Proofs.YtfigjpehecibeaaGreat.Gr
set_option linter.unusedVariables false
set_option linter.unusedSimpArgs false
attribute [local go_sem] G.cell
attribute [local go_sem] max2_int min2_int max_two min_two max_three min_three max_four min_four
theorem max_val (a b : Nat) : (if a < b then (b : Int) else (a : Int)) = ((max a b : Nat) : Int) := by split <;> omega
set_option maxHeartbeats 1000000 in
set_option maxRecDepth 100000 in
theorem depth_walk (x : S116) (hb : deepE x ≤ 1099511627776) (ih : ∀ y ∈ x.f3, ExprC 192 y (deepE y)) : ExprC 192 x (deepE x) := by
  intro A c w hc hl
  have gout : ∀ {o : Obj} (g : G (w.alloc o)), Below w.heap.size w g.W := fun g => ((Below.refl _ _).alloc (Nat.le_refl _) _).trans (g.below.mono (by simp))
  rw [deepE_eq] at hb ⊢
  obtain ⟨x0, x1, x2, l⟩ := x
  simp only at *
  have IH := Aside0.mk ih
  have HC := Aside0.mk hc
  have HB := Aside0.mk hb
  have hlm := hc.2.1
  clear ih hc hb
  go_enter Tryz.func192, Tryz.ntmps192
  go_upto_region 1 with (fail)
  refine wp_grown0 ?_
  intro gg
  go_wp2
  go_loopw [9, 3] (fun i n W => ∃ (k : Nat) (g : G (gw0 gg)), i = .int .i64 k ∧ n = .int .i64 (deepL (l.take k)) ∧ W = g.W ∧ k ≤ l.length) (fun i n _ => l.length - (intOf i).toNat)
  case atStart => exact ⟨0, gg, rfl, rfl, rfl, Nat.zero_le _⟩
  case round =>
    obtain ⟨k, g, rfl, rfl, rfl, hk⟩ := hrel
    by_cases hlt : k < l.length
    · obtain ⟨ad, A3, c3, e1, q0, q1, q2, q3, l3, g3⟩ := at_T116 HC.out (k : Int) (Int.natCast_nonneg _) (by omega)
      cases e1
      rw [Int.toNat_natCast] at q0 q1 q2 q3
      replace q0 := ((gout g).cell (World.block_lt_of_cell? w _ q0)).trans q0
      replace q1 := ((gout g).cell (World.block_lt_of_cell? w _ q1)).trans q1
      replace q2 := ((gout g).cell (World.block_lt_of_cell? w _ q2)).trans q2
      replace q3 := ((gout g).cell (World.block_lt_of_cell? w _ q3)).trans q3
      have hi1 : (k : Int) < (l.length : Int) := by omega
      have G3 := Aside0.mk g3
      have L3 := Aside0.mk l3
      clear g3 l3
      have MEM := Aside0.mk (rd75_mem hlt)
      have T := Aside0.mk (congrArg deepL (take_rd116 hlt))
      go_wp2_with fail
      refine (call_of_alloc (g := g) (IH.out _ MEM.out A3 c3 _ (Kd.C_below G3.out ((gout g).alloc (gout g).size _)) L3.out)).mono ?_
      rintro _ _ ⟨rfl, gg2, rfl⟩
      go_wp2_with fail
      have T2 := T.out
      rw [deepL_add] at T2
      exact ⟨⟨k + 1, gg2, by go_num, by rw [T2, ← max_val], rfl, by omega⟩, by simp [intOf]; omega⟩
    · have W := Aside0.mk (wrapN (n := deepL l) (by have := HB.out; omega))
      go_wp2_with fail
      go_ret
      refine ⟨?_, gout g⟩
      rw [show k = l.length by omega, List.take_length, W.out]
      rfl
theorem depth_calls : ∀ (n : Nat) (x : S116), SizeOf.sizeOf x ≤ n → deepE x ≤ 1099511627776 → ExprC 192 x (deepE x) := by
  intro n
  induction n with
  | zero => intro x h; obtain ⟨a, b, c, l⟩ := x; simp at h
  | succ n ih =>
    intro x h hb
    exact depth_walk x hb fun y hy => ih y (rd75_size rfl hy h) (by have := deepL_mem hy; rw [deepE_eq] at hb; omega)
mutual
def weightE : S116 → Nat
  | ⟨_, _, _, l⟩ => 1 + weightL l
def weightL : List S116 → Nat
  | [] => 0
  | x :: r => weightE x + weightL r
end
theorem weightE_eq (x : S116) : weightE x = 1 + weightL x.f3 := by
  obtain ⟨a, b, s, l⟩ := x
  rw [weightE]
theorem weightL_add (l : List S116) (x : S116) : weightL (l ++ [x]) = weightL l + weightE x := by
  induction l with
  | nil => simp [weightL]
  | cons y r ih => rw [List.cons_append, weightL, ih, weightL]; omega
theorem weightL_mem {l : List S116} {x : S116} (h : x ∈ l) : weightE x ≤ weightL l := by
  induction l with
  | nil => cases h
  | cons y r ih =>
    rw [weightL]
    rcases List.mem_cons.1 h with rfl | h
    · omega
    · have := ih h; omega
theorem weightL_take (l : List S116) (k : Nat) : weightL (l.take k) ≤ weightL l := by
  induction l generalizing k with
  | nil => simp [weightL]
  | cons y r ih =>
    cases k with
    | zero => simp [weightL]
    | succ k => rw [List.take_succ_cons, weightL, weightL]; have := ih k; omega
theorem wrap_add {a b : Nat} (h : a + b < 9223372036854775807) : wrap64 ((a : Int) + (b : Int)) = ((a + b : Nat) : Int) := by unfold wrap64; omega
set_option maxHeartbeats 1000000 in
set_option maxRecDepth 100000 in
theorem weight_walk (x : S116) (hb : weightE x ≤ 1099511627776) (ih : ∀ y ∈ x.f3, ExprC 230 y (weightE y)) : ExprC 230 x (weightE x) := by
  intro A c w hc hl
  have gout : ∀ {o : Obj} (g : G (w.alloc o)), Below w.heap.size w g.W := fun g => ((Below.refl _ _).alloc (Nat.le_refl _) _).trans (g.below.mono (by simp))
  rw [weightE_eq] at hb ⊢
  obtain ⟨x0, x1, x2, l⟩ := x
  simp only at *
  have IH := Aside0.mk ih
  have HC := Aside0.mk hc
  have HB := Aside0.mk hb
  have hlm := hc.2.1
  clear ih hc hb
  go_enter Tryz.func230, Tryz.ntmps230
  go_upto_region 1 with (fail)
  refine wp_grown0 ?_
  intro gg
  go_wp2
  go_loopw [4, 3] (fun i n W => ∃ (k : Nat) (g : G (gw0 gg)), i = .int .i64 k ∧ (∃ m : Nat, n = .int .i64 m ∧ m = 1 + weightL (l.take k)) ∧ W = g.W ∧ k ≤ l.length) (fun i n _ => l.length - (intOf i).toNat)
  case atStart => exact ⟨0, gg, rfl, ⟨1, rfl, rfl⟩, rfl, Nat.zero_le _⟩
  case round =>
    obtain ⟨k, g, rfl, ⟨m, rfl, hm⟩, rfl, hk⟩ := hrel
    have M := Aside0.mk hm
    clear hm
    by_cases hlt : k < l.length
    · obtain ⟨ad, A3, c3, e1, q0, q1, q2, q3, l3, g3⟩ := at_T116 HC.out (k : Int) (Int.natCast_nonneg _) (by omega)
      cases e1
      rw [Int.toNat_natCast] at q0 q1 q2 q3
      replace q0 := ((gout g).cell (World.block_lt_of_cell? w _ q0)).trans q0
      replace q1 := ((gout g).cell (World.block_lt_of_cell? w _ q1)).trans q1
      replace q2 := ((gout g).cell (World.block_lt_of_cell? w _ q2)).trans q2
      replace q3 := ((gout g).cell (World.block_lt_of_cell? w _ q3)).trans q3
      have hi1 : (k : Int) < (l.length : Int) := by omega
      have G3 := Aside0.mk g3
      have L3 := Aside0.mk l3
      clear g3 l3
      have MEM := Aside0.mk (rd75_mem hlt)
      have T := Aside0.mk (congrArg weightL (take_rd116 hlt))
      have T1 := Aside0.mk (wrap_add (a := m) (b := weightE (rd_T116 l (k : Int))) (by have t := T.out; rw [weightL_add] at t; have := weightL_take l (k + 1); have := HB.out; have := M.out; omega))
      go_wp2_with fail
      refine (call_of (g := g) (IH.out _ MEM.out A3 c3 g.W (Kd.C_below G3.out (gout g)) L3.out)).mono ?_
      rintro _ _ ⟨rfl, gg2, rfl⟩
      go_wp2_with fail
      exact ⟨⟨k + 1, gg2, by go_num, ⟨m + weightE (rd_T116 l (k : Int)), by rw [T1.out], by have t := T.out; rw [weightL_add] at t; rw [t, M.out]; omega⟩, rfl, by omega⟩, by simp [intOf]; omega⟩
    · go_wp2_with fail
      go_ret
      refine ⟨?_, gout g⟩
      rw [M.out, show k = l.length by omega, List.take_length]
      rfl
theorem weight_calls : ∀ (n : Nat) (x : S116), SizeOf.sizeOf x ≤ n → weightE x ≤ 1099511627776 → ExprC 230 x (weightE x) := by
  intro n
  induction n with
  | zero => intro x h; obtain ⟨a, b, c, l⟩ := x; simp at h
  | succ n ih =>
    intro x h hb
    exact weight_walk x hb fun y hy => ih y (rd75_size rfl hy h) (by have := weightL_mem hy; rw [weightE_eq] at hb; omega)
theorem plus_sum : ∀ (d : Nat) (l : List Int) (i k : Nat) (s : Nat), (∀ x ∈ l, 0 ≤ x) → i + d = l.length → d < k → (s : Int) + (l.drop i).sum ≤ 1099511627776 → l.length < 100 →
    wf_plus.l0 k (s : Int) l (l.length : Int) (i : Int) = some ((s : Int) + (l.drop i).sum) := by
  intro d
  induction d with
  | zero =>
    intro l i k s hp h hk hs _
    obtain ⟨k, rfl⟩ : ∃ a, k = a + 1 := ⟨k - 1, by omega⟩
    rw [wf_plus.l0, if_neg (by omega), List.drop_eq_nil_of_le (by omega)]; simp
  | succ d ih =>
    intro l i k s hp h hk hs hl
    obtain ⟨k, rfl⟩ : ∃ a, k = a + 1 := ⟨k - 1, by omega⟩
    have hi : i < l.length := by omega
    have e : wrap64 ((i : Int) + 1) = ((i + 1 : Nat) : Int) := by unfold wrap64; omega
    have er : rd l (i : Int) = l[i] := by simp [rd, List.getD_eq_getElem?_getD, hi]
    have hd : l.drop i = l[i] :: l.drop (i + 1) := List.drop_eq_getElem_cons hi
    have hx := hp _ (List.getElem_mem hi)
    have hr : 0 ≤ (l.drop (i + 1)).sum := by
      have : ∀ q : List Int, (∀ x ∈ q, 0 ≤ x) → 0 ≤ q.sum := by
        intro q
        induction q with
        | nil => simp
        | cons a r ih => intro h; rw [List.sum_cons]; have := h a (by simp); have := ih fun x hx => h x (by simp [hx]); omega
      exact this _ fun x hx => hp x (List.mem_of_mem_drop hx)
    rw [hd, List.sum_cons] at hs ⊢
    obtain ⟨x, hxn⟩ : ∃ x : Nat, l[i] = (x : Int) := ⟨l[i].toNat, by omega⟩
    rw [wf_plus.l0, if_pos (by omega), if_pos (by omega), if_pos (by omega), e, er, hxn, wrap_add (by omega)]
    rw [hxn] at hs
    have hm : mn ((s + x : Nat) : Int) 1099511627776 = ((s + x : Nat) : Int) := by unfold mn; split <;> omega
    rw [hm, ih l (i + 1) k (s + x) hp (by omega) (by omega) (by push_cast; omega) hl]
    congr 1
    push_cast
    omega
theorem plus_calls (l : List Int) (A : Option Addr) (c : Nat) (w : World) (hp : ∀ x ∈ l, 0 ≤ x) (hs : l.sum ≤ 1099511627776) (hl : l.length < 100) (hr : Kd.C (Kd.int .i64) w A l.length l) (hc : l.length ≤ c) :
    Calls Tryz.prog 155 #[.slice A l.length c] w fun e w' => e = .returned (.int .i64 l.sum) ∧ Below w.heap.size w w' :=
  wf_plus.calls 101 A c l l.sum w hr hc (by
    have := plus_sum l.length l 0 101 0 hp (by omega) (by omega) (by simpa using hs) hl
    unfold wf_plus.f
    simpa using this)
end Go.Proofs.YtfigjpehecibeaaGreat.L
end
section
namespace Go.Proofs.YtfigjpehecibeaaGreat.L
open Go.RowKit Go.Proofs.YtfigjpehecibeaaGreatW.PrintWords Go.Proofs.YtfigjpehecibeaaGreatW.PrintLast Go.Proofs.YtfigjpehecibeaaGreatW.PrintMore Go.Proofs.YtfigjpehecibeaaGreat.Gr
set_option linter.unusedVariables false
set_option linter.unusedSimpArgs false
attribute [local go_sem] G.cell
theorem lit_ints (w : World) (xs : List Int) (e : TypeId) (hm : xs.length ≤ 100) : Kd.C (Kd.int .i64) (w.alloc (.cells (xs.map (Value.int .i64)).toArray e)) (some ⟨w.heap.size, 0, none⟩) xs.length xs := by
  refine ⟨rfl, by omega, fun _ => ⟨_, rfl, fun i v hv => ⟨[.int .i64 v], rfl, rfl, fun j u hu => ?_⟩⟩⟩
  have hj : j = 0 := by
    have := (List.getElem?_eq_some_iff.1 hu).1
    simp at this; omega
  subst hj
  simp at hu
  subst hu
  have hi := (List.getElem?_eq_some_iff.1 hv).1
  have hv2 := (List.getElem?_eq_some_iff.1 hv).2
  simp only [go_sem, Addr.add, hv]
  rw [show (Kd.int IntKind.i64).sz = 1 from rfl, Nat.mul_one, Nat.add_zero]
  split
  · next h => subst h; rw [World.cell?_alloc_new]; simp [hv]
  · rw [Nat.zero_add, World.cell?_alloc_new]; simp [hv]
set_option maxHeartbeats 1000000 in
set_option maxRecDepth 100000 in
theorem weigh_walk (x : S116) (hb : weightE x ≤ 1099511627776) (ih : ∀ y ∈ x.f3, ExprC 156 y (weightE y)) : ExprC 156 x (weightE x) := by
  intro A c w hc hl
  have gout : ∀ {o : Obj} (g : G (w.alloc o)), Below w.heap.size w g.W := fun g => ((Below.refl _ _).alloc (Nat.le_refl _) _).trans (g.below.mono (by simp))
  rw [weightE_eq] at hb ⊢
  obtain ⟨x0, x1, x2, l⟩ := x
  simp only at *
  have IH := Aside0.mk ih
  have HC := Aside0.mk hc
  have HB := Aside0.mk hb
  have hlm := hc.2.1
  clear ih hc hb
  go_enter Tryz.func156, Tryz.ntmps156
  go_upto_region 1 with (fail)
  refine wp_grown0 ?_
  intro gg
  go_wp2
  go_loopw [9, 3] (fun i n W => ∃ (k : Nat) (g : G (gw0 gg)), i = .int .i64 k ∧ (∃ m : Nat, n = .int .i64 m ∧ m = 1 + weightL (l.take k)) ∧ W = g.W ∧ k ≤ l.length) (fun i n _ => l.length - (intOf i).toNat)
  case atStart => exact ⟨0, gg, rfl, ⟨1, rfl, rfl⟩, rfl, Nat.zero_le _⟩
  case round =>
    obtain ⟨k, g, rfl, ⟨m, rfl, hm⟩, rfl, hk⟩ := hrel
    have M := Aside0.mk hm
    clear hm
    by_cases hlt : k < l.length
    · obtain ⟨ad, A3, c3, e1, q0, q1, q2, q3, l3, g3⟩ := at_T116 HC.out (k : Int) (Int.natCast_nonneg _) (by omega)
      cases e1
      rw [Int.toNat_natCast] at q0 q1 q2 q3
      replace q0 := ((gout g).cell (World.block_lt_of_cell? w _ q0)).trans q0
      replace q1 := ((gout g).cell (World.block_lt_of_cell? w _ q1)).trans q1
      replace q2 := ((gout g).cell (World.block_lt_of_cell? w _ q2)).trans q2
      replace q3 := ((gout g).cell (World.block_lt_of_cell? w _ q3)).trans q3
      have hi1 : (k : Int) < (l.length : Int) := by omega
      have G3 := Aside0.mk g3
      have L3 := Aside0.mk l3
      clear g3 l3
      have MEM := Aside0.mk (rd75_mem hlt)
      have T := Aside0.mk (congrArg weightL (take_rd116 hlt))
      go_wp2_with fail
      refine (call_of_alloc (g := g) (IH.out _ MEM.out A3 c3 _ (Kd.C_below G3.out ((gout g).alloc (gout g).size _)) L3.out)).mono ?_
      rintro _ _ ⟨rfl, gg2, rfl⟩
      go_wp2_with fail
      refine (call_of_alloc (g := gg2) (plus_calls [(m : Int), (weightE (rd_T116 l (k : Int)) : Int)] (some ⟨gg2.W.heap.size, 0, none⟩) 2 _ (by simp) (by have t := T.out; rw [weightL_add] at t; have := weightL_take l (k + 1); have := HB.out; have := M.out; simp; omega) (by simp) (lit_ints _ _ _ (by simp)) (by simp))).mono ?_
      rintro _ _ ⟨rfl, gg3, rfl⟩
      go_wp2_with fail
      exact ⟨⟨k + 1, gg3, by go_num, ⟨m + weightE (rd_T116 l (k : Int)), by simp, by have t := T.out; rw [weightL_add] at t; rw [t, M.out]; omega⟩, rfl, by omega⟩, by simp [intOf]; omega⟩
    · go_wp2_with fail
      go_ret
      refine ⟨?_, gout g⟩
      rw [M.out, show k = l.length by omega, List.take_length]
      rfl
theorem weigh_calls : ∀ (n : Nat) (x : S116), SizeOf.sizeOf x ≤ n → weightE x ≤ 1099511627776 → ExprC 156 x (weightE x) := by
  intro n
  induction n with
  | zero => intro x h; obtain ⟨a, b, c, l⟩ := x; simp at h
  | succ n ih =>
    intro x h hb
    exact weigh_walk x hb fun y hy => ih y (rd75_size rfl hy h) (by have := weightL_mem hy; rw [weightE_eq] at hb; omega)
end Go.Proofs.YtfigjpehecibeaaGreat.L
end
section
set_option linter.unusedVariables false
set_option linter.ambiguousOpen false
set_option linter.unusedSimpArgs false
namespace Go.Proofs.YtfigjpehecibeaaGreat.Ot
open Go.RowKit Go.Proofs.YtfigjpehecibeaaGreat.L Go.Proofs.YtfigjpehecibeaaGreatW.PrintWords Go.Proofs.YtfigjpehecibeaaGreatW.PrintLast Go.Proofs.YtfigjpehecibeaaGreatW.PrintMore Go.Proofs.YtfigjpehecibeaaGreat.Op
theorem all_sum {H : Type} (l : List (DataW H)) : Rows.uptoBulkAll l = (l.map Rows.uptoBulk).sum := by
  induction l with
  | nil => rfl
  | cons d r ih => simp [Rows.uptoBulkAll, ih]
theorem bulk {H : Type} : Bulk (Rows.uptoBulk (H := H)) where
  str := fun l => by simp [Rows.uptoBulk]
  one := fun d => by
    cases d with
    | lit l => cases l <;> simp [Rows.uptoBulk]
    | nil => simp [Rows.uptoBulk]
    | ptr d => simp [Rows.uptoBulk]
    | slice elems spare => simp [Rows.uptoBulk]
    | agg parts => simp [Rows.uptoBulk]
    | iface t d => simp [Rows.uptoBulk]
    | map entries => simp [Rows.uptoBulk]
    | held h => simp [Rows.uptoBulk]
  slice := fun es ss => by simp only [Rows.uptoBulk, all_sum]; omega
  agg := fun ps => by simp only [Rows.uptoBulk, all_sum]; omega
abbrev okI (n : Int) : Prop := (Lit.int .i64 n).wf = true
abbrev okU (n : Int) : Prop := (Lit.int .u64 n).wf = true
abbrev okS (s : ByteArray) : Prop := s.size ≤ 140737488351232
mutual
def goodE : S116 → Prop
  | ⟨a, b, s, l⟩ => okI a ∧ okU b ∧ okS s ∧ l.length * 56 ≤ 140737488351232 ∧ goodEs l
def goodEs : List S116 → Prop
  | [] => True
  | x :: r => goodE x ∧ goodEs r
end
theorem goodEs_iff (l : List S116) : goodEs l ↔ ∀ x ∈ l, goodE x := by
  induction l with
  | nil => simp [goodEs]
  | cons x r ih => simp [goodEs, ih]
mutual
def bulkE : S116 → Nat
  | ⟨a, b, s, l⟩ => 1 + bulkEs l
def bulkEs : List S116 → Nat
  | [] => 0
  | x :: r => bulkE x + bulkEs r
end
theorem bulkEs_sum (l : List S116) : bulkEs l = (l.map bulkE).sum := by
  induction l with
  | nil => simp [bulkEs]
  | cons x r ih => simp [bulkEs, ih]
mutual
def goodT : S119 → Prop
  | ⟨a, s, e, f, lo, hi, th, el⟩ => okI a ∧ okS s ∧ goodE e ∧ goodE f ∧ okU lo ∧ okU hi ∧ th.length * 200 ≤ 140737488351232 ∧ el.length * 200 ≤ 140737488351232 ∧ goodTs th ∧ goodTs el
def goodTs : List S119 → Prop
  | [] => True
  | x :: r => goodT x ∧ goodTs r
end
theorem goodTs_iff (l : List S119) : goodTs l ↔ ∀ x ∈ l, goodT x := by
  induction l with
  | nil => simp [goodTs]
  | cons x r ih => simp [goodTs, ih]
mutual
def bulkT : S119 → Nat
  | ⟨a, s, e, f, lo, hi, th, el⟩ => 1 + bulkE e + bulkE f + bulkTs th + bulkTs el
def bulkTs : List S119 → Nat
  | [] => 0
  | x :: r => bulkT x + bulkTs r
end
theorem bulkTs_sum (l : List S119) : bulkTs l = (l.map bulkT).sum := by
  induction l with
  | nil => simp [bulkTs]
  | cons x r ih => simp [bulkTs, ih]
def goodD (x : S70) : Prop := okI x.f0 ∧ okS x.f1 ∧ okI x.f2 ∧ x.f3.length * 8 ≤ 140737488351232 ∧ ∀ v ∈ x.f3, okU v
def bulkD (x : S70) : Nat := 1 + x.f3.length
theorem sum_ones {α : Type} (l : List α) : (l.map fun _ => 1).sum = l.length := by induction l <;> simp_all [Nat.add_comm]
section
variable {H : Type} {enc : TypeId × Value → H} {w : World}
theorem opensE : ∀ n, Opens enc Tryz.prog w Rows.uptoBulk n 116 k116 goodE bulkE := by
  intro n
  induction n using Nat.strongRecOn with
  | _ n ih =>
    have h : Opens enc Tryz.prog w Rows.uptoBulk n 116 (Kd.pair (Kd.int .i64) (Kd.pair (Kd.int .u64) (Kd.pair Kd.string (Kd.slice 116 k116)))) _ _ := opens_struct bulk (fs := [(3, 0), (74, 1), (9, 2), (114, 3)]) Tryz.underlying116 rfl fun m hm =>
      opensF_cons (opens_int bulk Tryz.underlying3) (by kernel_rfl) (opensF_cons (opens_int bulk Tryz.underlying74) (by kernel_rfl) (opensF_cons (opens_string bulk Tryz.underlying9) (by kernel_rfl)
        (opensF_last (opens_slice bulk (bytes := 56) Tryz.underlying114 (by kernel_rfl) (by kernel_rfl) (by decide) fun m' hm' => ih m' (by omega)) (Nat.le_of_eq (by kernel_rfl)))))
    refine opens_kd (opens_weaken (opens_iso (f := fun x : S116 => (x.f0, x.f1, x.f2, x.f3)) (fun p => ⟨p.1, p.2.1, p.2.2.1, p.2.2.2⟩) (fun _ => rfl) h) ?_ ?_) ?_
    · rintro ⟨a, b, s, l⟩ ⟨h1, h2, h3, h4, h5⟩
      exact ⟨h1, h2, h3, h4, (goodEs_iff l).2 h5⟩
    · rintro ⟨a, b, s, l⟩
      simp only [bulkE, bulkEs_sum]
      omega
    · rintro x cs ⟨_, _, rfl, rfl, ⟨_, _, rfl, rfl, ⟨_, _, rfl, rfl, ⟨A3, c3, rfl, l3, g3⟩⟩⟩⟩
      exact k116_mk w x l3 g3
theorem opensT : ∀ n, Opens enc Tryz.prog w Rows.uptoBulk n 119 k119 goodT bulkT := by
  intro n
  induction n using Nat.strongRecOn with
  | _ n ih =>
    have h : Opens enc Tryz.prog w Rows.uptoBulk n 119 (Kd.pair (Kd.int .i64) (Kd.pair Kd.string (Kd.pair k116 (Kd.pair k116 (Kd.pair (Kd.int .u64) (Kd.pair (Kd.int .u64) (Kd.pair (Kd.slice 119 k119) (Kd.slice 119 k119)))))))) _ _ := opens_struct bulk (fs := [(3, 0), (9, 1), (116, 2), (116, 6), (74, 10), (74, 11), (23, 12), (23, 13)]) Tryz.underlying119 rfl fun m hm =>
      opensF_cons (opens_int bulk Tryz.underlying3) (by kernel_rfl) (opensF_cons (opens_string bulk Tryz.underlying9) (by kernel_rfl) (opensF_cons (opensE m) (by kernel_rfl) (opensF_cons (opensE m) (by kernel_rfl)
        (opensF_cons (opens_int bulk Tryz.underlying74) (by kernel_rfl) (opensF_cons (opens_int bulk Tryz.underlying74) (by kernel_rfl)
        (opensF_cons (opens_slice bulk (bytes := 200) Tryz.underlying23 (by kernel_rfl) (by kernel_rfl) (by decide) fun m' hm' => ih m' (by omega)) (by kernel_rfl)
        (opensF_last (opens_slice bulk (bytes := 200) Tryz.underlying23 (by kernel_rfl) (by kernel_rfl) (by decide) fun m' hm' => ih m' (by omega)) (Nat.le_of_eq (by kernel_rfl)))))))))
    refine opens_kd (opens_weaken (opens_iso (f := fun x : S119 => (x.f0, x.f1, x.f2, x.f3, x.f4, x.f5, x.f6, x.f7)) (fun p => ⟨p.1, p.2.1, p.2.2.1, p.2.2.2.1, p.2.2.2.2.1, p.2.2.2.2.2.1, p.2.2.2.2.2.2.1, p.2.2.2.2.2.2.2⟩) (fun _ => rfl) h) ?_ ?_) ?_
    · rintro ⟨a, s, e, f, lo, hi, th, el⟩ ⟨h1, h2, h3, h4, h5, h6, h7, h8⟩
      exact ⟨h1, h2, h3, h4, h5, h6, h7.1, h8.1, (goodTs_iff th).2 h7.2, (goodTs_iff el).2 h8.2⟩
    · rintro ⟨a, s, e, f, lo, hi, th, el⟩
      simp only [bulkT, bulkTs_sum]
      omega
    · rintro x cs ⟨_, _, rfl, rfl, ⟨_, _, rfl, rfl, ⟨_, _, rfl, s2, ⟨_, _, rfl, s6, ⟨_, _, rfl, rfl, ⟨_, _, rfl, rfl, ⟨_, _, rfl, ⟨A12, c12, rfl, l12, g12⟩, ⟨A13, c13, rfl, l13, g13⟩⟩⟩⟩⟩⟩⟩⟩
      obtain ⟨A5, c5, rfl, l5, g5⟩ := k116_open s2
      obtain ⟨A9, c9, rfl, l9, g9⟩ := k116_open s6
      exact k119_mk w x l5 g5 l9 g9 l12 g12 l13 g13
theorem opensD (n : Nat) : Opens enc Tryz.prog w Rows.uptoBulk n 70 k70 goodD bulkD := by
  have h : Opens enc Tryz.prog w Rows.uptoBulk n 70 (Kd.pair (Kd.int .i64) (Kd.pair Kd.string (Kd.pair (Kd.int .i64) (Kd.slice 74 (Kd.int .u64))))) _ _ := opens_struct bulk (fs := [(3, 0), (9, 1), (3, 2), (36, 3)]) Tryz.underlying70 rfl fun m hm =>
    opensF_cons (opens_int bulk Tryz.underlying3) (by kernel_rfl) (opensF_cons (opens_string bulk Tryz.underlying9) (by kernel_rfl) (opensF_cons (opens_int bulk Tryz.underlying3) (by kernel_rfl)
      (opensF_last (opens_slice bulk (bytes := 8) Tryz.underlying36 (by kernel_rfl) (by kernel_rfl) (by decide) fun m' hm' => opens_int bulk Tryz.underlying74) (Nat.le_of_eq (by kernel_rfl)))))
  refine opens_weaken (opens_iso (f := fun x : S70 => (x.f0, x.f1, x.f2, x.f3)) (fun p => ⟨p.1, p.2.1, p.2.2.1, p.2.2.2⟩) (fun _ => rfl) h) ?_ ?_
  · rintro ⟨a, s, z, l⟩ ⟨h1, h2, h3, h4, h5⟩
    exact ⟨h1, h2, h3, h4, h5⟩
  · rintro ⟨a, s, z, l⟩
    simp only [bulkD, sum_ones]
    omega
structure Prog where
  nm : ByteArray
  wd : Int
  ln : Int
  ds : List S70
  bd : List S119
def kP : Kd Prog := Kd.iso (Kd.pair Kd.string (Kd.pair (Kd.int .i64) (Kd.pair (Kd.int .i64) (Kd.pair (Kd.slice 70 k70) (Kd.slice 119 k119))))) (fun x : Prog => (x.nm, x.wd, x.ln, x.ds, x.bd))
structure GoodP (x : Prog) : Prop where
  nm : okS x.nm
  wd : okI x.wd
  ln : okI x.ln
  dl : x.ds.length * 56 ≤ 140737488351232
  ds : ∀ d ∈ x.ds, goodD d
  bl : x.bd.length * 200 ≤ 140737488351232
  bd : ∀ t ∈ x.bd, goodT t
def bulkP (x : Prog) : Nat := 1 + (x.ds.map bulkD).sum + bulkTs x.bd
theorem opensP (n : Nat) : Opens enc Tryz.prog w Rows.uptoBulk n 25 kP GoodP bulkP := by
  have h : Opens enc Tryz.prog w Rows.uptoBulk n 25 (Kd.pair Kd.string (Kd.pair (Kd.int .i64) (Kd.pair (Kd.int .i64) (Kd.pair (Kd.slice 70 k70) (Kd.slice 119 k119))))) _ _ := opens_struct bulk (fs := [(9, 0), (3, 1), (3, 2), (22, 3), (23, 4)]) Tryz.underlying25 rfl fun m hm =>
    opensF_cons (opens_string bulk Tryz.underlying9) (by kernel_rfl) (opensF_cons (opens_int bulk Tryz.underlying3) (by kernel_rfl) (opensF_cons (opens_int bulk Tryz.underlying3) (by kernel_rfl)
      (opensF_cons (opens_slice bulk (bytes := 56) Tryz.underlying22 (by kernel_rfl) (by kernel_rfl) (by decide) fun m' hm' => opensD m') (by kernel_rfl)
      (opensF_last (opens_slice bulk (bytes := 200) Tryz.underlying23 (by kernel_rfl) (by kernel_rfl) (by decide) fun m' hm' => opensT m') (Nat.le_of_eq (by kernel_rfl))))))
  refine opens_weaken (opens_iso (f := fun x : Prog => (x.nm, x.wd, x.ln, x.ds, x.bd)) (fun p => ⟨p.1, p.2.1, p.2.2.1, p.2.2.2.1, p.2.2.2.2⟩) (fun _ => rfl) h) ?_ ?_
  · rintro ⟨a, s, z, l, b⟩ ⟨h1, h2, h3, h4, h5⟩
    exact ⟨h1, h2, h3, h4.1, h4.2, h5.1, h5.2⟩
  · rintro ⟨a, s, z, l, b⟩
    simp only [bulkP, bulkTs_sum]
    omega
abbrev opensP_K (w : World) : Prog → List Value → Prop := kP.K w
abbrev opensP_good (x : Prog) : Prop := GoodP x
abbrev opensP_bulk (x : Prog) : Nat := bulkP x
end
theorem prog_of_K {w : World} {x : Prog} {v : Value} (hs : ∃ vs, v = .agg vs) (h : kP.K w x v.cells.toList) : ∃ A3 c3 A4 c4, v = .agg #[.string x.nm, .int .i64 x.wd, .int .i64 x.ln, .slice A3 x.ds.length c3, .slice A4 x.bd.length c4] ∧ x.ds.length ≤ c3 ∧ k70.C w A3 x.ds.length x.ds ∧ x.bd.length ≤ c4 ∧ k119.C w A4 x.bd.length x.bd := by
  obtain ⟨vs, rfl⟩ := hs
  obtain ⟨_, _, e, rfl, ⟨_, _, rfl, rfl, ⟨_, _, rfl, rfl, ⟨_, _, rfl, ⟨A3, c3, rfl, l3, g3⟩, ⟨A4, c4, rfl, l4, g4⟩⟩⟩⟩⟩ := h
  obtain ⟨vs⟩ := vs
  simp [Value.cells] at e
  subst e
  exact ⟨A3, c3, A4, c4, rfl, l3, g3, l4, g4⟩
end Go.Proofs.YtfigjpehecibeaaGreat.Ot
end
section
namespace Go.Proofs.YtfigjpehecibeaaGreat.L
open Go.RowKit Go.Proofs.YtfigjpehecibeaaGreatW.PrintWords Go.Proofs.YtfigjpehecibeaaGreatW.PrintLast Go.Proofs.YtfigjpehecibeaaGreatW.PrintMore Go.Proofs.YtfigjpehecibeaaGreat.Gr
set_option linter.unusedVariables false
set_option linter.unusedSimpArgs false
attribute [local go_sem] G.cell
mutual
def sizeT : S119 → Nat
  | ⟨k, _, at', e, lo, hi, th, el⟩ => 1 + (if k = 1 then weightE e else if k = 2 then weightE at' + weightE e else if k = 3 then weightE e + sizeB th + sizeB el else if k = 4 then (hi - lo).toNat * (1 + sizeB th) else 0)
def sizeB : List S119 → Nat
  | [] => 0
  | x :: r => sizeT x + sizeB r
end
theorem sizeB_add (l : List S119) (x : S119) : sizeB (l ++ [x]) = sizeB l + sizeT x := by
  induction l with
  | nil => simp [sizeB]
  | cons y r ih => rw [List.cons_append, sizeB, ih, sizeB]; omega
theorem sizeT_eq (x : S119) : sizeT x = 1 + (if x.f0 = 1 then weightE x.f3 else if x.f0 = 2 then weightE x.f2 + weightE x.f3 else if x.f0 = 3 then weightE x.f3 + sizeB x.f6 + sizeB x.f7 else if x.f0 = 4 then (x.f5 - x.f4).toNat * (1 + sizeB x.f6) else 0) := by
  obtain ⟨a, b, c, d, e, f, g, h⟩ := x
  rw [sizeT]
theorem take_rd119 {l : List S119} {k : Nat} (hlt : k < l.length) : l.take (k + 1) = l.take k ++ [rd_T119 l (k : Int)] := by
  unfold rd_T119
  rw [Int.toNat_natCast, List.getD_eq_getElem?_getD, List.getElem?_eq_getElem hlt, List.take_add_one, List.getElem?_eq_getElem hlt]
  rfl
theorem rd77_mem' {l : List S119} {k : Nat} (hlt : k < l.length) : rd_T119 l (k : Int) ∈ l := by
  unfold rd_T119; rw [Int.toNat_natCast, List.getD_eq_getElem?_getD, List.getElem?_eq_getElem hlt]; exact List.getElem_mem _
mutual
theorem weight_bulk : ∀ x : S116, weightE x ≤ Ot.bulkE x
  | ⟨a, b, s, l⟩ => by rw [weightE, Ot.bulkE]; have := weightL_bulk l; omega
theorem weightL_bulk : ∀ l : List S116, weightL l ≤ Ot.bulkEs l
  | [] => by rw [weightL]; omega
  | x :: r => by rw [weightL, Ot.bulkEs]; have := weight_bulk x; have := weightL_bulk r; omega
end
mutual
theorem deep_weight : ∀ x : S116, deepE x ≤ weightE x
  | ⟨a, b, s, l⟩ => by rw [weightE, deepE]; have := deepL_weight l; omega
theorem deepL_weight : ∀ l : List S116, deepL l ≤ weightL l
  | [] => by rw [weightL, deepL]; omega
  | x :: r => by rw [weightL, deepL]; have := deep_weight x; have := deepL_weight r; omega
end
theorem cut_calls (n : Nat) (w : World) : Calls Tryz.prog 229 #[.int .i64 n] w fun e w' => e = .returned (.int .i64 ((min n 65537 : Nat) : Int)) ∧ Below w.heap.size w w' :=
  (cadenceref16_cut.calls (n : Int) ((min n 65537 : Nat) : Int) w (by
    unfold cadenceref16_cut.f
    split
    · rw [Nat.min_eq_right (by omega)]; rfl
    · rw [Nat.min_eq_left (by omega)])).mono fun _ _ ⟨he, hd⟩ => ⟨he, hd.below⟩
theorem call_at {P : Program} {f : FuncId} {args : Array Value} {w : World} {v : Value} (h : Calls P f args w fun e w' => e = .returned v ∧ Below w.heap.size w w') :
    Calls P f args w fun e w'' => e = .returned v ∧ ∃ g' : G w, w'' = g'.W := h.mono fun _ w' ⟨he, hb⟩ => ⟨he, ⟨⟨w', hb⟩, rfl⟩⟩
theorem G.deep {w : World} {g : G w} {o : Obj} (g' : G (g.W.alloc o)) : Below w.heap.size w g'.W := (G.ball g o).trans (g'.below.mono (G.ball g o).size)
theorem cutI_calls (z : Int) (n r : Nat) (h : z = n) (hr : r = min n 65537) (w : World) : Calls Tryz.prog 229 #[.int .i64 z] w fun e w' => e = .returned (.int .i64 (r : Int)) ∧ Below w.heap.size w w' := by
  subst h hr; exact cut_calls n w
theorem wp_region_of {P : Program} {id : Nat} {Q : Exit → Act → World → Prop} {a : Act} {w : World} {g : G w} {l : List Oper} (hm : P.follows .mixedOrders = true) (hB : Region.lexB .any l.toArray = true)
    (h : wpQuiet P l.toArray (fun w' => ∃ g : G w, w' = g.W) (fun a' => ∀ w', (∃ g : G w, w' = g.W) → Q .normal a' w') l a) : (Code.region id l.toArray true).wp P Q a g.W :=
  wp_region_quiet (C := fun w' => ∃ g : G w, w' = g.W) hm hB ⟨⟨_, g.below.drew⟩, rfl⟩ (by simpa using h)
def mkG {w w' : World} (h : Below w.heap.size w w') : G w := ⟨w', h⟩
theorem for_cut (a t S K : Nat) (hK : 0 < K) : min (min a K + min t K * (1 + min S K)) K = min (a + t * (1 + S)) K := by
  rcases Nat.lt_or_ge t K with ht | ht
  · rw [Nat.min_eq_left (Nat.le_of_lt ht)]
    rcases Nat.lt_or_ge S K with hS | hS
    · rw [Nat.min_eq_left (Nat.le_of_lt hS)]
      generalize t * (1 + S) = p
      omega
    · rw [Nat.min_eq_right hS]
      rcases Nat.eq_zero_or_pos t with rfl | h0
      · rw [Nat.zero_mul, Nat.zero_mul]; omega
      · have h1 : K ≤ t * (1 + K) := Nat.le_trans (by omega : K ≤ 1 + K) (Nat.le_mul_of_pos_left _ h0)
        have h2 : K ≤ t * (1 + S) := Nat.le_trans (by omega : K ≤ 1 + S) (Nat.le_mul_of_pos_left _ h0)
        generalize t * (1 + K) = p at *
        generalize t * (1 + S) = q at *
        omega
  · rw [Nat.min_eq_right ht]
    have h1 : K ≤ K * (1 + min S K) := Nat.le_mul_of_pos_right _ (by omega)
    have h2 : K ≤ t * (1 + S) := Nat.le_trans ht (Nat.le_mul_of_pos_right _ (by omega))
    generalize K * (1 + min S K) = p at *
    generalize t * (1 + S) = q at *
    omega
theorem wrap_id {z : Int} (h0 : 0 ≤ z) (h1 : z < 9223372036854775808) : wrap64 z = z := by unfold wrap64; omega
theorem for_sum (m t s : Nat) (hm : m ≤ 65537) (ht : t ≤ 65537) (hs : s ≤ 65537) : wrap64 ((m : Int) + wrap64 ((t : Int) * wrap64 (1 + (s : Int)))) = ((m + t * (1 + s) : Nat) : Int) := by
  have hp : t * (1 + s) ≤ 65537 * 65538 := Nat.mul_le_mul ht (by omega)
  have e : (t : Int) * (1 + (s : Int)) = ((t * (1 + s) : Nat) : Int) := by push_cast; rfl
  rw [wrap_id (z := 1 + (s : Int)) (by omega) (by omega), e]
  generalize t * (1 + s) = p at *
  rw [wrap_id (z := (p : Int)) (by omega) (by omega), wrap_id (by omega) (by omega)]
  push_cast; rfl
def SizeC (f : FuncId) (cap : Nat) (l : List S119) : Prop := ∀ (A : Option Addr) (c : Nat) (w : World), k119.C w A l.length l → l.length ≤ c →
  Calls Tryz.prog f #[.slice A l.length c] w fun e w' => e = .returned (.int .i64 ((min (sizeB l) cap : Nat) : Int)) ∧ Below w.heap.size w w'
end Go.Proofs.YtfigjpehecibeaaGreat.L
end
section
namespace Go.Proofs.YtfigjpehecibeaaGreat.L
set_option linter.unusedVariables false
set_option linter.unusedSimpArgs false
def eqS (a b : ByteArray) : Bool := decide (a.toList = b.toList)
def hasS (l : List ByteArray) (s : ByteArray) : Bool := l.any (eqS · s)
def firstN (n : Nat) (f : Nat → Bool) : Option Nat := (List.range n).find? f
theorem firstN_none {n : Nat} {f : Nat → Bool} (h : ∀ j, j < n → f j = false) : firstN n f = none := by
  unfold firstN
  rw [List.find?_eq_none]
  intro x hx
  rw [h x (List.mem_range.1 hx)]
  decide
theorem firstN_some {n i : Nat} {f : Nat → Bool} (hi : i < n) (hf : f i = true) (h : ∀ j, j < i → f j = false) : firstN n f = some i := by
  unfold firstN
  rw [List.find?_range_eq_some]
  exact ⟨hf, List.mem_range.2 hi, fun j hj => by simp [h j hj]⟩
theorem firstN_cases (n : Nat) (f : Nat → Bool) : (firstN n f = none ∧ ∀ j, j < n → f j = false) ∨ ∃ i, i < n ∧ firstN n f = some i ∧ f i = true ∧ ∀ j, j < i → f j = false := by
  cases h : firstN n f with
  | none =>
    refine .inl ⟨rfl, fun j hj => ?_⟩
    have := List.find?_eq_none.1 h j (List.mem_range.2 hj)
    simpa using this
  | some i =>
    have h2 := List.find?_range_eq_some.1 h
    exact .inr ⟨i, List.mem_range.1 h2.2.1, rfl, h2.1, fun j hj => by simpa using h2.2.2 j hj⟩
theorem firstN_congr {n : Nat} {f g : Nat → Bool} (h : ∀ j, j < n → f j = g j) : firstN n f = firstN n g := by
  rcases firstN_cases n f with ⟨h1, h2⟩ | ⟨i, h0, h1, h2, h3⟩
  · rw [h1, firstN_none fun j hj => (h j hj) ▸ h2 j hj]
  · rw [h1, firstN_some h0 ((h i h0) ▸ h2) fun j hj => (h j (by omega)) ▸ h3 j hj]
inductive Th where
  | decl (i : Nat)
  | stmt (s : S119) (deep : Nat) (loops : List ByteArray)
  | expr (e : S116) (loops : List ByteArray)
mutual
def exTh : S116 → List ByteArray → List Th
  | ⟨a, b, c, l⟩, lo => .expr ⟨a, b, c, l⟩ lo :: exThs l lo
def exThs : List S116 → List ByteArray → List Th
  | [], _ => []
  | x :: r, lo => exTh x lo ++ exThs r lo
end
def inLoop (k : Int) (nm : ByteArray) (lo : List ByteArray) : List ByteArray := if k = 4 then lo ++ [nm] else lo
mutual
def stTh : S119 → Nat → List ByteArray → List Th
  | ⟨k, nm, at', e, l, h, th, el⟩, d, lo => .stmt ⟨k, nm, at', e, l, h, th, el⟩ d lo :: ((if k = 2 then exTh at' lo else []) ++ (if k = 1 ∨ k = 2 ∨ k = 3 then exTh e lo else []) ++ (stThs th (d + 1) (inLoop k nm lo) ++ stThs el (d + 1) (inLoop k nm lo)))
def stThs : List S119 → Nat → List ByteArray → List Th
  | [], _, _ => []
  | x :: r, d, lo => stTh x d lo ++ stThs r d lo
end
theorem exTh_eq (x : S116) (lo : List ByteArray) : exTh x lo = .expr x lo :: exThs x.f3 lo := by
  obtain ⟨a, b, c, l⟩ := x
  rw [exTh]
theorem exThs_add (l : List S116) (x : S116) (lo : List ByteArray) : exThs (l ++ [x]) lo = exThs l lo ++ exTh x lo := by
  induction l with
  | nil => simp [exThs]
  | cons y r ih => rw [List.cons_append, exThs, ih, exThs, List.append_assoc]
theorem stTh_eq (x : S119) (d : Nat) (lo : List ByteArray) : stTh x d lo = .stmt x d lo :: ((if x.f0 = 2 then exTh x.f2 lo else []) ++ (if x.f0 = 1 ∨ x.f0 = 2 ∨ x.f0 = 3 then exTh x.f3 lo else []) ++ (stThs x.f6 (d + 1) (inLoop x.f0 x.f1 lo) ++ stThs x.f7 (d + 1) (inLoop x.f0 x.f1 lo))) := by
  obtain ⟨k, nm, at', e, l, h, th, el⟩ := x
  rw [stTh]
theorem stThs_add (l : List S119) (x : S119) (d : Nat) (lo : List ByteArray) : stThs (l ++ [x]) d lo = stThs l d lo ++ stTh x d lo := by
  induction l with
  | nil => simp [stThs]
  | cons y r ih => rw [List.cons_append, stThs, ih, stThs, List.append_assoc]
def things (ds : List S70) (bd : List S119) : List Th := (List.range ds.length).map .decl ++ stThs bd 1 []
mutual
theorem exTh_len : ∀ (x : S116) (lo : List ByteArray), (exTh x lo).length = weightE x
  | ⟨a, b, s, l⟩, lo => by rw [exTh, weightE, List.length_cons, exThs_len l lo]; omega
theorem exThs_len : ∀ (l : List S116) (lo : List ByteArray), (exThs l lo).length = weightL l
  | [], _ => by rw [exThs, weightL]; rfl
  | x :: r, lo => by rw [exThs, weightL, List.length_append, exTh_len x lo, exThs_len r lo]
end
mutual
theorem stTh_len : ∀ (x : S119) (d : Nat) (lo : List ByteArray), (stTh x d lo).length ≤ Ot.bulkT x
  | ⟨k, nm, at', e, l, h, th, el⟩, d, lo => by
    rw [stTh, Ot.bulkT, List.length_cons, List.length_append, List.length_append, List.length_append]
    have h1 : (if k = 2 then exTh at' lo else []).length ≤ Ot.bulkE at' := by
      split
      · rw [exTh_len]; exact weight_bulk _
      · exact Nat.zero_le _
    have h2 : (if k = 1 ∨ k = 2 ∨ k = 3 then exTh e lo else []).length ≤ Ot.bulkE e := by
      split
      · rw [exTh_len]; exact weight_bulk _
      · exact Nat.zero_le _
    have h3 := stThs_len th (d + 1) (inLoop k nm lo)
    have h4 := stThs_len el (d + 1) (inLoop k nm lo)
    omega
theorem stThs_len : ∀ (l : List S119) (d : Nat) (lo : List ByteArray), (stThs l d lo).length ≤ Ot.bulkTs l
  | [], _, _ => by rw [stThs]; exact Nat.zero_le _
  | x :: r, d, lo => by rw [stThs, Ot.bulkTs, List.length_append]; have := stTh_len x d lo; have := stThs_len r d lo; omega
end
def pow2B (n : Int) : Bool := n == 1 || n == 2 || n == 4 || n == 8 || n == 16 || n == 32 || n == 64 || n == 128 || n == 256
def widthB (w : Int) : Bool := w == 4 || w == 8 || w == 16 || w == 32 || w == 64
def fitsB (w x : Int) : Bool := decide (64 ≤ w) || decide (x < 2 ^ w.toNat)
def findB (ds : List S70) (nm : ByteArray) : Option Nat := firstN ds.length fun i => eqS (rd_T70 ds i).f1 nm
def wordsD (d : S70) : Int := if d.f2 = 0 then 1 else d.f2
def isIn (d : S70) : Bool := d.f0 == 1 || d.f0 == 2
def wordsS (ds : List S70) : Int := ((ds.filter isIn).map wordsD).sum
def twiceB (ds : List S70) (i : Nat) : Bool := (firstN i fun j => eqS (rd_T70 ds j).f1 (rd_T70 ds i).f1).isSome
def sizeBad (ds : List S70) (i : Nat) : Bool := (rd_T70 ds i).f2 != 0 && !pow2B (rd_T70 ds i).f2
def valuesBad (ds : List S70) (i : Nat) : Bool := (rd_T70 ds i).f0 == 3 && ((rd_T70 ds i).f3.length : Int) != (rd_T70 ds i).f2
def rangeBad (wd : Int) (ds : List S70) (i : Nat) : Bool := (rd_T70 ds i).f3.any fun v => !fitsB wd v
def useB : Th → Option ByteArray
  | .decl _ => none
  | .stmt s _ _ => if s.f0 = 1 ∨ s.f0 = 2 ∨ s.f0 = 5 then some s.f1 else none
  | .expr e _ => if e.f0 = 2 ∨ e.f0 = 3 then some e.f2 else none
def loopsOf : Th → List ByteArray
  | .decl _ => []
  | .stmt _ _ l => l
  | .expr _ l => l
def kindD (d : S70) : Th → Bool
  | .decl _ => d.f2 == 0
  | .stmt s _ _ => if s.f0 = 2 then d.f2 != 0 && d.f0 != 3 else d.f2 == 0
  | .expr e _ => if e.f0 = 2 then d.f2 == 0 else d.f2 != 0
def isName : Th → Bool
  | .expr e _ => e.f0 == 2
  | _ => false
def kindB (ds : List S70) (t : Th) (nm : ByteArray) : Bool := if hasS (loopsOf t) nm = true then isName t else kindD (rd_T70 ds ((findB ds nm).getD 0)) t
def bad10 : Th → Bool
  | .decl _ => false
  | .stmt _ d _ => decide (64 < d)
  | .expr e _ => decide (64 < deepE e)
def bad11 (ds : List S70) (t : Th) : Bool := match useB t with
  | none => false
  | some nm => !hasS (loopsOf t) nm && (findB ds nm).isNone
def bad12 (ds : List S70) (t : Th) : Bool := match useB t with
  | none => false
  | some nm => !kindB ds t nm
def bad13 (wd : Int) : Th → Bool
  | .expr e _ => e.f0 == 1 && !fitsB wd e.f1
  | _ => false
def bad14 (wd : Int) : Th → Bool
  | .stmt s _ _ => s.f0 == 4 && (decide (s.f5 < s.f4) || (decide (0 < s.f5) && !fitsB wd (s.f5 - 1)))
  | _ => false
def bad15 (ds : List S70) : Th → Bool
  | .stmt s _ l => s.f0 == 4 && ((findB ds s.f1).isSome || hasS l s.f1)
  | _ => false
def badC (wd : Int) (ds : List S70) (c : Nat) : Th → Bool :=
  if c = 10 then bad10 else if c = 11 then bad11 ds else if c = 12 then bad12 ds else if c = 13 then bad13 wd else if c = 14 then bad14 wd else bad15 ds
def errC (c : Nat) : Int := if c = 10 then 152 else if c = 11 then 161 else if c = 12 then 162 else if c = 13 then 165 else if c = 14 then 166 else 167
def thAt (l : List Th) (i : Nat) : Th := l.getD i (.decl 0)
def firstBad (wd : Int) (ds : List S70) (l : List Th) (c : Nat) : Option Nat := firstN l.length fun i => badC wd ds c (thAt l i)
structure Ans where
  c : Int
  at' : Int
  e : Int
def faultC (wd : Int) (ds : List S70) (bd : List S119) (l : List Th) : Nat → Ans
  | 0 => if 65536 < sizeB bd then ⟨16, -1, 168⟩ else ⟨0, 0, 0⟩
  | n + 1 => match firstBad wd ds l (15 - n) with
    | some i => ⟨((15 - n : Nat) : Int), i, errC (15 - n)⟩
    | none => faultC wd ds bd l n
def faultD (wd : Int) (ds : List S70) (bd : List S119) : Ans := match firstN ds.length (twiceB ds) with
  | some i => ⟨5, i, 160⟩
  | none => match firstN ds.length (sizeBad ds) with
    | some i => ⟨6, i, 163⟩
    | none => match firstN ds.length (valuesBad ds) with
      | some i => ⟨7, i, 164⟩
      | none => match firstN ds.length (rangeBad wd ds) with
        | some i => ⟨8, i, 165⟩
        | none => if 4096 < wordsS ds then ⟨9, -1, 169⟩ else faultC wd ds bd (things ds bd) 6
def faultS (nm : ByteArray) (wd ln : Int) (ds : List S70) (bd : List S119) : Ans :=
  if formB nm wd ln ds bd = false then ⟨1, -1, 1⟩
  else if widthB wd = false then ⟨2, -1, 5⟩
  else if pow2B ln = false then ⟨3, -1, 163⟩
  else if 256 < ds.length then ⟨4, -1, 4⟩
  else faultD wd ds bd
end Go.Proofs.YtfigjpehecibeaaGreat.L
end
section
namespace Go.Proofs.YtfigjpehecibeaaGreat.L
open Go.RowKit Go.Proofs.YtfigjpehecibeaaGreatW.PrintWords Go.Proofs.YtfigjpehecibeaaGreatW.PrintLast Go.Proofs.YtfigjpehecibeaaGreatW.PrintMore Go.Proofs.YtfigjpehecibeaaGreat.Gr
set_option linter.unusedVariables false
set_option linter.unusedSimpArgs false
def lent {α : Type} (W0 : World) (d : Kd α) : Kd α where
  sz := d.sz
  E := []
  K := fun _ x cs => d.K W0 x cs
  M := fun _ _ _ x cs => d.K W0 x cs
  K_len := d.K_len
  K_one := d.K_one
  K_below := fun _ h => h
  K_of_M := fun h => h
  M_mono := fun _ h => h
  M_bound := fun h => h
  M_move := fun _ h => h
  M_lower := fun _ h => h
structure TV where
  is : Int
  d : Int
  s : S119
  e : S116
  deep : Int
  loops : List ByteArray
def kTh (W0 : World) : Kd TV := Kd.iso (Kd.pair (Kd.int .i64) (Kd.pair (Kd.int .i64) (Kd.pair (lent W0 k119) (Kd.pair (lent W0 k116) (Kd.pair (Kd.int .i64) (Kd.slice 9 Kd.string)))))) (fun x : TV => (x.is, x.d, x.s, x.e, x.deep, x.loops))
def toTV : Th → TV
  | .decl i => ⟨0, i, z119, z116, 0, []⟩
  | .stmt s d lo => ⟨1, 0, s, z116, d, lo⟩
  | .expr e lo => ⟨2, 0, z119, e, deepE e, lo⟩
theorem kTh_open {W0 w : World} {x : TV} {cs : List Value} (h : (kTh W0).K w x cs) : ∃ A5 c5 A9 c9 A12 c12 A13 c13 A19 c19 A21 c21,
    cs = [.int .i64 x.is, .int .i64 x.d, .int .i64 x.s.f0, .string x.s.f1, .int .i64 x.s.f2.f0, .int .u64 x.s.f2.f1, .string x.s.f2.f2, .slice A5 x.s.f2.f3.length c5, .int .i64 x.s.f3.f0, .int .u64 x.s.f3.f1, .string x.s.f3.f2, .slice A9 x.s.f3.f3.length c9, .int .u64 x.s.f4, .int .u64 x.s.f5, .slice A12 x.s.f6.length c12, .slice A13 x.s.f7.length c13,
      .int .i64 x.e.f0, .int .u64 x.e.f1, .string x.e.f2, .slice A19 x.e.f3.length c19, .int .i64 x.deep, .slice A21 x.loops.length c21] ∧
    x.s.f2.f3.length ≤ c5 ∧ k116.C W0 A5 x.s.f2.f3.length x.s.f2.f3 ∧ x.s.f3.f3.length ≤ c9 ∧ k116.C W0 A9 x.s.f3.f3.length x.s.f3.f3 ∧ x.s.f6.length ≤ c12 ∧ k119.C W0 A12 x.s.f6.length x.s.f6 ∧ x.s.f7.length ≤ c13 ∧ k119.C W0 A13 x.s.f7.length x.s.f7 ∧
    x.e.f3.length ≤ c19 ∧ k116.C W0 A19 x.e.f3.length x.e.f3 ∧ x.loops.length ≤ c21 ∧ Kd.string.C w A21 x.loops.length x.loops := by
  obtain ⟨_, _, rfl, rfl, ⟨_, _, rfl, rfl, ⟨_, _, rfl, s2, ⟨_, _, rfl, s3, ⟨_, _, rfl, rfl, ⟨A21, c21, rfl, l21, g21⟩⟩⟩⟩⟩⟩ := h
  obtain ⟨A5, c5, A9, c9, A12, c12, A13, c13, hs, l5, g5, l9, g9, l12, g12, l13, g13⟩ := k119_open (show k119.K W0 x.s _ from s2)
  obtain ⟨A19, c19, he, l19, g19⟩ := k116_open (show k116.K W0 x.e _ from s3)
  subst hs he
  exact ⟨A5, c5, A9, c9, A12, c12, A13, c13, A19, c19, A21, c21, rfl, l5, g5, l9, g9, l12, g12, l13, g13, l19, g19, l21, g21⟩
theorem C_nil {α : Type} (d : Kd α) (W : World) : d.C W none 0 [] := by
  obtain ⟨A, c, e, l, g⟩ := Kd.R_reads (Kd.R_nil d 75 W 0 (fun _ => True))
  cases e
  exact g
theorem k116_zero (W : World) : k116.K W z116 [.int .i64 0, .int .u64 0, .string ⟨#[]⟩, .slice none 0 0] := k116_mk W z116 (A3 := none) (c3 := 0) (Nat.le_refl _) (C_nil k116 W)
theorem k119_zero (W : World) : k119.K W z119 [.int .i64 0, .string ⟨#[]⟩, .int .i64 0, .int .u64 0, .string ⟨#[]⟩, .slice none 0 0, .int .i64 0, .int .u64 0, .string ⟨#[]⟩, .slice none 0 0, .int .u64 0, .int .u64 0, .slice none 0 0, .slice none 0 0] :=
  k119_mk W z119 (Nat.le_refl _) (C_nil k116 W) (Nat.le_refl _) (C_nil k116 W) (Nat.le_refl _) (C_nil k119 W) (Nat.le_refl _) (C_nil k119 W)
theorem kTh_mk {W0 w : World} {base : Nat} {ok : Nat → Prop} {x : TV} {cs ce : List Value} {lv : Value} (hs : k119.K W0 x.s cs) (he : k116.K W0 x.e ce) (hl : Kd.string.R 9 w base ok lv x.loops) :
    (kTh W0).M w base ok x ([.int .i64 x.is, .int .i64 x.d] ++ cs ++ ce ++ [.int .i64 x.deep, lv]) :=
  ⟨[.int .i64 x.is], [.int .i64 x.d] ++ cs ++ ce ++ [.int .i64 x.deep, lv], by simp, rfl, [.int .i64 x.d], cs ++ ce ++ [.int .i64 x.deep, lv], by simp, rfl, cs, ce ++ [.int .i64 x.deep, lv], by simp, hs, ce, [.int .i64 x.deep, lv], by simp, he, [.int .i64 x.deep], [lv], rfl, rfl, lv, rfl, hl⟩
structure Gro (W0 w w1 : World) (v v1 : Value) : Prop where
  below : Below W0.heap.size W0 w1
  grown : w.grownBy w1 v.ownBlock
  at' : v1.ownBlock = v.ownBlock ∨ ∃ b, v1.ownBlock = some b ∧ w.heap.size ≤ b
theorem Gro.trans {W0 w w1 w2 : World} {v v1 v2 : Value} (h : Gro W0 w w1 v v1) (k : Gro W0 w1 w2 v1 v2) : Gro W0 w w2 v v2 := by
  refine ⟨k.below, ⟨k.grown.os.trans h.grown.os, k.grown.tape.trans h.grown.tape, k.grown.output.trans h.grown.output, Nat.le_trans h.grown.size k.grown.size, fun i hi hn => ?_⟩, ?_⟩
  · refine (k.grown.block i (Nat.lt_of_lt_of_le hi h.grown.size) ?_).trans (h.grown.block i hi hn)
    rcases h.at' with ha | ⟨b, hb, hle⟩
    · rw [ha]; exact hn
    · rw [hb]
      intro he
      injection he with he
      omega
  · rcases k.at' with ha | ⟨b, hb, hle⟩
    · rw [ha]; exact h.at'
    · exact .inr ⟨b, hb, Nat.le_trans h.grown.size hle⟩
theorem Gro.of_below {W0 w w1 : World} (v : Value) (hb : Below W0.heap.size W0 w) (h : Below w.heap.size w w1) : Gro W0 w w1 v v :=
  ⟨hb.trans (h.mono hb.size), ⟨h.os, h.tape, h.output, h.size, fun k hk _ => h.block k hk⟩, .inl rfl⟩
def Li (tT : Nat) (W0 w : World) (v : Value) (xs : List Th) : Prop := (kTh W0).R tT w W0.heap.size (fun _ => True) v (xs.map toTV)
def Lo (W0 w : World) (v lv : Value) (lo : List ByteArray) : Prop := Kd.string.R 9 w W0.heap.size (fun k => some k ≠ v.ownBlock) lv lo
theorem Li.below {tT : Nat} {W0 w w1 : World} {v : Value} {xs : List Th} (h : Li tT W0 w v xs) (hb : Below w.heap.size w w1) : Li tT W0 w1 v xs := Kd.R_below h hb
theorem Lo.step {W0 w w1 : World} {v v1 lv : Value} {lo : List ByteArray} (h : Lo W0 w v lv lo) (hg : Gro W0 w w1 v v1) : Lo W0 w1 v1 lv lo := by
  have h1 := Kd.R_bound h
  have h2 := Kd.R_grown h1 hg.grown (fun k hk => hk.1)
  refine Kd.R_mono h2 fun k hk => ?_
  rcases hg.at' with ha | ⟨b, hb, hle⟩
  · rw [ha]; exact hk.1
  · rw [hb]
    intro he
    injection he with he
    have := hk.2.2.1
    omega
theorem Lo.nil (W0 w : World) (v : Value) : Lo W0 w v (.slice none 0 0) [] := Kd.R_nil _ _ _ _ _
end Go.Proofs.YtfigjpehecibeaaGreat.L
end
section
namespace Go.Proofs.YtfigjpehecibeaaGreat.L
open Go.RowKit Go.Proofs.YtfigjpehecibeaaGreatW.PrintWords Go.Proofs.YtfigjpehecibeaaGreatW.PrintLast Go.Proofs.YtfigjpehecibeaaGreatW.PrintMore Go.Proofs.YtfigjpehecibeaaGreat.Gr
set_option linter.unusedVariables false
set_option linter.unusedSimpArgs false
theorem power_eq (n : Int) : cadenceref16_power.f 10 n = some (pow2B n) := by
  unfold cadenceref16_power.f pow2B
  by_cases h1 : n = 1
  · subst h1; rfl
  by_cases h2 : n = 2
  · subst h2; rfl
  by_cases h4 : n = 4
  · subst h4; rfl
  by_cases h8 : n = 8
  · subst h8; rfl
  by_cases h16 : n = 16
  · subst h16; rfl
  by_cases h32 : n = 32
  · subst h32; rfl
  by_cases h64 : n = 64
  · subst h64; rfl
  by_cases h128 : n = 128
  · subst h128; rfl
  by_cases h256 : n = 256
  · subst h256; rfl
  have e : ∀ z : Int, 0 ≤ z → z < 1000 → IntKind.u64.wrap (2 * z) = 2 * z := by
    intro z h0 h1
    simp only [IntKind.wrap, IntKind.bits, IntKind.signed, Bool.false_and, Bool.false_eq_true, if_false]
    omega
  have st : ∀ (k : Nat) (z : Int), ¬ n = z → 0 ≤ z → z ≤ 256 → cadenceref16_power.l0 (k + 1) n z = cadenceref16_power.l0 k n (2 * z) := by
    intro k z hn h0 h1
    rw [cadenceref16_power.l0, if_pos h1, if_neg hn, e z h0 (by omega)]
  rw [st 9 1 h1 (by decide) (by decide), show (2 : Int) * 1 = 2 from rfl, st 8 2 h2 (by decide) (by decide), show (2 : Int) * 2 = 4 from rfl, st 7 4 h4 (by decide) (by decide), show (2 : Int) * 4 = 8 from rfl,
    st 6 8 h8 (by decide) (by decide), show (2 : Int) * 8 = 16 from rfl, st 5 16 h16 (by decide) (by decide), show (2 : Int) * 16 = 32 from rfl, st 4 32 h32 (by decide) (by decide), show (2 : Int) * 32 = 64 from rfl,
    st 3 64 h64 (by decide) (by decide), show (2 : Int) * 64 = 128 from rfl, st 2 128 h128 (by decide) (by decide), show (2 : Int) * 128 = 256 from rfl, st 1 256 h256 (by decide) (by decide), show (2 : Int) * 256 = 512 from rfl]
  rw [cadenceref16_power.l0, if_neg (by decide)]
  simp [h1, h2, h4, h8, h16, h32, h64, h128, h256]
theorem fits_eq (w x : Int) (h0 : 0 ≤ w) (hx : 0 ≤ x) : cadenceref16_fits.f w x = some (fitsB w x) := by
  unfold cadenceref16_fits.f fitsB
  by_cases h : w ≥ 64
  · rw [if_pos h, decide_eq_true h]; rfl
  · rw [if_neg h, decide_eq_false h]
    have e : IntKind.u64.wrap w = w := by
      simp only [IntKind.wrap, IntKind.bits, IntKind.signed, Bool.false_and, Bool.false_eq_true, if_false]
      omega
    rw [e, if_pos h0]
    congr 1
    rw [Bool.false_or]
    congr 1
    have hw : w < 64 := by omega
    obtain ⟨n, rfl⟩ := Int.eq_ofNat_of_zero_le h0
    have hn : n < 64 := by omega
    rw [show Int.toNat (n : Int) = n from rfl]
    have key : shl .u64 1 (n : Int) = 2 ^ n := by
      clear e h h0 hw
      revert n
      decide
    rw [key]
theorem in_eq : ∀ (d k i : Nat) (l : List ByteArray) (s : ByteArray), i + d = l.length → d < k → l.length ≤ 9223372036854775807 → (∀ j, j < i → eqS (rdOf ByteArray.empty l (j : Int)) s = false) → cadenceref16_in.l0 k l s (i : Int) = some (hasS l s) := by
  intro d
  induction d with
  | zero =>
    intro k i l s hi hk hl hn
    obtain ⟨k, rfl⟩ : ∃ k', k = k' + 1 := ⟨k - 1, by omega⟩
    rw [cadenceref16_in.l0, if_neg (by omega)]
    congr 1
    symm
    unfold hasS
    rw [List.any_eq_false]
    intro y hy
    obtain ⟨j, hj, rfl⟩ := List.getElem_of_mem hy
    have := hn j (by omega)
    unfold rdOf at this
    rw [Int.toNat_natCast, List.getD_eq_getElem?_getD, List.getElem?_eq_getElem hj] at this
    simpa using this
  | succ d ih =>
    intro k i l s hi hk hl hn
    obtain ⟨k, rfl⟩ : ∃ k', k = k' + 1 := ⟨k - 1, by omega⟩
    rw [cadenceref16_in.l0, if_pos (by omega), if_pos (by omega)]
    by_cases h : (rdOf ByteArray.empty l (i : Int)).toList = s.toList
    · rw [if_pos h]
      congr 1
      symm
      unfold hasS
      rw [List.any_eq_true]
      have hj : i < l.length := by omega
      refine ⟨l[i], List.getElem_mem _, ?_⟩
      unfold rdOf at h
      rw [Int.toNat_natCast, List.getD_eq_getElem?_getD, List.getElem?_eq_getElem hj] at h
      exact decide_eq_true h
    · rw [if_neg h, show wrap64 ((i : Int) + 1) = ((i + 1 : Nat) : Int) by unfold wrap64; omega]
      refine ih k (i + 1) l s (by omega) (by omega) hl fun j hj => ?_
      by_cases hji : j = i
      · subst hji; exact decide_eq_false h
      · exact hn j (by omega)
def findI (ds : List S70) (nm : ByteArray) : Int := match findB ds nm with
  | some i => i
  | none => -1
theorem Decl_eq : ∀ (d k i : Nat) (ds : List S70) (s a0 : ByteArray) (a1 a2 : Int) (bd : List S119), i + d = ds.length → d < k → ds.length ≤ 9223372036854775807 → (∀ j, j < i → eqS (rd_T70 ds (j : Int)).f1 s = false) → cadenceref16_Decl.l0 k s (i : Int) a0 a1 a2 ds bd = some (findI ds s) := by
  intro d
  induction d with
  | zero =>
    intro k i ds s a0 a1 a2 bd hi hk hl hn
    obtain ⟨k, rfl⟩ : ∃ k', k = k' + 1 := ⟨k - 1, by omega⟩
    rw [cadenceref16_Decl.l0, if_neg (by omega)]
    congr 1
    unfold findI findB
    rw [firstN_none fun j hj => hn j (by omega)]
  | succ d ih =>
    intro k i ds s a0 a1 a2 bd hi hk hl hn
    obtain ⟨k, rfl⟩ : ∃ k', k = k' + 1 := ⟨k - 1, by omega⟩
    rw [cadenceref16_Decl.l0, if_pos (by omega), if_pos (by omega)]
    by_cases h : (rd_T70 ds (i : Int)).f1.toList = s.toList
    · rw [if_pos h]
      congr 1
      unfold findI findB
      rw [firstN_some (by omega) (decide_eq_true h) hn]
    · rw [if_neg h, show wrap64 ((i : Int) + 1) = ((i + 1 : Nat) : Int) by unfold wrap64; omega]
      refine ih k (i + 1) ds s a0 a1 a2 bd (by omega) (by omega) hl fun j hj => ?_
      by_cases hji : j = i
      · subst hji; exact decide_eq_false h
      · exact hn j (by omega)
end Go.Proofs.YtfigjpehecibeaaGreat.L
end
section
namespace Go.Proofs.YtfigjpehecibeaaGreat.L
open Go.RowKit Go.Proofs.YtfigjpehecibeaaGreatW.PrintWords Go.Proofs.YtfigjpehecibeaaGreatW.PrintLast Go.Proofs.YtfigjpehecibeaaGreatW.PrintMore Go.Proofs.YtfigjpehecibeaaGreat.Gr
set_option linter.unusedVariables false
set_option linter.unusedSimpArgs false
attribute [local go_sem] G.cell
def useV (x : TV) : ByteArray × Bool :=
  if x.is = 2 ∧ (x.e.f0 = 2 ∨ x.e.f0 = 3) then (x.e.f2, true) else if x.is = 1 ∧ (x.s.f0 = 1 ∨ x.s.f0 = 2 ∨ x.s.f0 = 5) then (x.s.f1, true) else (⟨#[]⟩, false)
set_option maxHeartbeats 1000000 in
set_option maxRecDepth 100000 in
theorem names_calls (x : TV) {A5 : Option Addr} {c5 : Nat} {A9 : Option Addr} {c9 : Nat} {A12 : Option Addr} {c12 : Nat} {A13 : Option Addr} {c13 : Nat} {A19 : Option Addr} {c19 : Nat} {A21 : Option Addr} {c21 : Nat} (w : World) (hx : x.is = 0 ∨ x.is = 1 ∨ x.is = 2) :
    Calls Tryz.prog 227 #[(.agg #[.int .i64 x.is, .int .i64 x.d, .int .i64 x.s.f0, .string x.s.f1, .int .i64 x.s.f2.f0, .int .u64 x.s.f2.f1, .string x.s.f2.f2, .slice A5 x.s.f2.f3.length c5, .int .i64 x.s.f3.f0, .int .u64 x.s.f3.f1, .string x.s.f3.f2, .slice A9 x.s.f3.f3.length c9, .int .u64 x.s.f4, .int .u64 x.s.f5, .slice A12 x.s.f6.length c12, .slice A13 x.s.f7.length c13, .int .i64 x.e.f0, .int .u64 x.e.f1, .string x.e.f2, .slice A19 x.e.f3.length c19, .int .i64 x.deep, .slice A21 x.loops.length c21])] w fun e w' => e = .returned (.tuple #[.string (useV x).1, .bool (useV x).2]) ∧ Below w.heap.size w w' := by
  have hb : ∀ o : Obj, Below w.heap.size w (w.alloc o) := fun o => (Below.refl _ _).alloc (Nat.le_refl _) o
  rcases hx with h0 | h1 | h2
  · go_enter Tryz.func227, Tryz.ntmps227
    go_wp2_with fail
    go_ret2
    exact ⟨by simp [useV, h0], hb _⟩
  · have hk : x.s.f0 = 1 ∨ x.s.f0 = 2 ∨ x.s.f0 = 5 ∨ (¬ x.s.f0 = 1 ∧ ¬ x.s.f0 = 2 ∧ ¬ x.s.f0 = 5) := by omega
    have bf : ∀ {z a : Int}, ¬ z = a → (z == a) = false := fun h => by simpa using h
    rcases hk with k | k | k | ⟨k1, k2, k5⟩
    rotate_right
    · have b1 := bf k1
      have b2 := bf k2
      have b5 := bf k5
      go_enter Tryz.func227, Tryz.ntmps227
      go_wp2_with fail
      go_ret2
      exact ⟨by simp [useV, h1, k1, k2, k5], hb _⟩
    all_goals
      go_enter Tryz.func227, Tryz.ntmps227
      go_wp2_with fail
      go_ret2
    · exact ⟨by simp [useV, h1, k], hb _⟩
    · exact ⟨by simp [useV, h1, k], hb _⟩
    · exact ⟨by simp [useV, h1, k], hb _⟩
  · have hk : x.e.f0 = 2 ∨ x.e.f0 = 3 ∨ (¬ x.e.f0 = 2 ∧ ¬ x.e.f0 = 3) := by omega
    have bf : ∀ {z a : Int}, ¬ z = a → (z == a) = false := fun h => by simpa using h
    rcases hk with k | k | ⟨k2, k3⟩
    rotate_right
    · have b2 := bf k2
      have b3 := bf k3
      go_enter Tryz.func227, Tryz.ntmps227
      go_wp2_with fail
      go_ret2
      exact ⟨by simp [useV, h2, k2, k3], hb _⟩
    all_goals
      go_enter Tryz.func227, Tryz.ntmps227
      go_wp2_with fail
      go_ret2
    · exact ⟨by simp [useV, h2, k], hb _⟩
    · exact ⟨by simp [useV, h2, k], hb _⟩
end Go.Proofs.YtfigjpehecibeaaGreat.L
end
