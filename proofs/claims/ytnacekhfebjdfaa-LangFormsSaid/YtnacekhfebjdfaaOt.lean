/- What reads as a tree is one: expressions, statements, declarations, programs. Ytnacekhfebjdfaa: the seat's Name; L: the namespace of its structures; YtnacekhfebjdfaaL0: the text they lie in; 3 int, 34 uint64, 9 string; 29 []uint64, 37 Expr, 35 []Expr, 39 Stmt, 24 []Stmt, 31 Decl, 23 []Decl, 26 Program: the types' numbers. -/
import Derived.Test.YtnacekhfebjdfaaRows
import Derived.Test.YtnacekhfebjdfaaOp
import Derived.Test.YtnacekhfebjdfaaL0
set_option linter.unusedVariables false
set_option linter.ambiguousOpen false
set_option linter.unusedSimpArgs false
namespace Go.Proofs.Ytnacekhfebjdfaa.Ot
open Go.RowKit Go.Proofs.Ytnacekhfebjdfaa.L Go.Proofs.YtnacekhfebjdfaaW.PrintWords Go.Proofs.YtnacekhfebjdfaaW.PrintLast Go.Proofs.YtnacekhfebjdfaaW.PrintMore Go.Proofs.Ytnacekhfebjdfaa.Op

theorem all_sum {H : Type} (l : List (DataW H)) : Rows.uptoBulkAll l = (l.map Rows.uptoBulk).sum := by
  induction l with
  | nil => rfl
  | cons d r ih => simp [Rows.uptoBulkAll, ih]
theorem bulk {H : Type} : Bulk (Rows.uptoBulk (H := H)) where
  str := fun l => by simp [Rows.uptoBulk]
  one := fun d => by
    cases d with
    | lit l => cases l <;> simp [Rows.uptoBulk]
    | nil => simp [Rows.uptoBulk]
    | ptr d => simp [Rows.uptoBulk]
    | slice elems spare => simp [Rows.uptoBulk]
    | agg parts => simp [Rows.uptoBulk]
    | iface t d => simp [Rows.uptoBulk]
    | map entries => simp [Rows.uptoBulk]
    | held h => simp [Rows.uptoBulk]
  slice := fun es ss => by simp only [Rows.uptoBulk, all_sum]; omega
  agg := fun ps => by simp only [Rows.uptoBulk, all_sum]; omega

/-! #### what is known of a tree that is laid in memory -/
abbrev okI (n : Int) : Prop := (Lit.int .i64 n).wf = true
abbrev okU (n : Int) : Prop := (Lit.int .u64 n).wf = true
abbrev okS (s : ByteArray) : Prop := s.size ≤ 140737488351232
mutual
def goodE : S37 → Prop
  | ⟨a, b, s, l⟩ => okI a ∧ okU b ∧ okS s ∧ l.length * 56 ≤ 140737488351232 ∧ goodEs l
def goodEs : List S37 → Prop
  | [] => True
  | x :: r => goodE x ∧ goodEs r
end
theorem goodEs_iff (l : List S37) : goodEs l ↔ ∀ x ∈ l, goodE x := by
  induction l with
  | nil => simp [goodEs]
  | cons x r ih => simp [goodEs, ih]
mutual
def bulkE : S37 → Nat
  | ⟨a, b, s, l⟩ => 1 + s.size + bulkEs l
def bulkEs : List S37 → Nat
  | [] => 0
  | x :: r => bulkE x + bulkEs r
end
theorem bulkEs_sum (l : List S37) : bulkEs l = (l.map bulkE).sum := by
  induction l with
  | nil => simp [bulkEs]
  | cons x r ih => simp [bulkEs, ih]
mutual
def goodT : S39 → Prop
  | ⟨a, s, e, f, lo, hi, th, el⟩ => okI a ∧ okS s ∧ goodE e ∧ goodE f ∧ okU lo ∧ okU hi ∧ th.length * 200 ≤ 140737488351232 ∧ el.length * 200 ≤ 140737488351232 ∧ goodTs th ∧ goodTs el
def goodTs : List S39 → Prop
  | [] => True
  | x :: r => goodT x ∧ goodTs r
end
theorem goodTs_iff (l : List S39) : goodTs l ↔ ∀ x ∈ l, goodT x := by
  induction l with
  | nil => simp [goodTs]
  | cons x r ih => simp [goodTs, ih]
mutual
def bulkT : S39 → Nat
  | ⟨a, s, e, f, lo, hi, th, el⟩ => 1 + s.size + bulkE e + bulkE f + bulkTs th + bulkTs el
def bulkTs : List S39 → Nat
  | [] => 0
  | x :: r => bulkT x + bulkTs r
end
theorem bulkTs_sum (l : List S39) : bulkTs l = (l.map bulkT).sum := by
  induction l with
  | nil => simp [bulkTs]
  | cons x r ih => simp [bulkTs, ih]
def goodD (x : S31) : Prop := okI x.f0 ∧ okS x.f1 ∧ okI x.f2 ∧ x.f3.length * 8 ≤ 140737488351232 ∧ ∀ v ∈ x.f3, okU v
def bulkD (x : S31) : Nat := 1 + x.f1.size + x.f3.length
theorem sum_ones {α : Type} (l : List α) : (l.map fun _ => 1).sum = l.length := by induction l <;> simp_all [Nat.add_comm]

section
variable {H : Type} {enc : TypeId × Value → H} {w : World}
theorem opensE : ∀ n, Opens enc Try.prog w Rows.uptoBulk n 37 k37 goodE bulkE := by
  intro n
  induction n using Nat.strongRecOn with
  | _ n ih =>
    have h : Opens enc Try.prog w Rows.uptoBulk n 37 (Kd.pair (Kd.int .i64) (Kd.pair (Kd.int .u64) (Kd.pair Kd.string (Kd.slice 37 k37)))) _ _ := opens_struct bulk (fs := [(3, 0), (34, 1), (9, 2), (35, 3)]) Try.underlying37 rfl fun m hm =>
      opensF_cons (opens_int bulk Try.underlying3) (by kernel_rfl) (opensF_cons (opens_int bulk Try.underlying34) (by kernel_rfl) (opensF_cons (opens_string bulk Try.underlying9) (by kernel_rfl)
        (opensF_last (opens_slice bulk (bytes := 56) Try.underlying35 (by kernel_rfl) (by kernel_rfl) (by decide) fun m' hm' => ih m' (by omega)) (Nat.le_of_eq (by kernel_rfl)))))
    refine opens_kd (opens_weaken (opens_iso (f := fun x : S37 => (x.f0, x.f1, x.f2, x.f3)) (fun p => ⟨p.1, p.2.1, p.2.2.1, p.2.2.2⟩) (fun _ => rfl) h) ?_ ?_) ?_
    · rintro ⟨a, b, s, l⟩ ⟨h1, h2, h3, h4, h5⟩
      exact ⟨h1, h2, h3, h4, (goodEs_iff l).2 h5⟩
    · rintro ⟨a, b, s, l⟩
      simp only [bulkE, bulkEs_sum]
      omega
    · rintro x cs ⟨_, _, rfl, rfl, ⟨_, _, rfl, rfl, ⟨_, _, rfl, rfl, ⟨A3, c3, rfl, l3, g3⟩⟩⟩⟩
      exact k37_mk w x l3 g3
theorem opensT : ∀ n, Opens enc Try.prog w Rows.uptoBulk n 39 k39 goodT bulkT := by
  intro n
  induction n using Nat.strongRecOn with
  | _ n ih =>
    have h : Opens enc Try.prog w Rows.uptoBulk n 39 (Kd.pair (Kd.int .i64) (Kd.pair Kd.string (Kd.pair k37 (Kd.pair k37 (Kd.pair (Kd.int .u64) (Kd.pair (Kd.int .u64) (Kd.pair (Kd.slice 39 k39) (Kd.slice 39 k39)))))))) _ _ := opens_struct bulk (fs := [(3, 0), (9, 1), (37, 2), (37, 6), (34, 10), (34, 11), (24, 12), (24, 13)]) Try.underlying39 rfl fun m hm =>
      opensF_cons (opens_int bulk Try.underlying3) (by kernel_rfl) (opensF_cons (opens_string bulk Try.underlying9) (by kernel_rfl) (opensF_cons (opensE m) (by kernel_rfl) (opensF_cons (opensE m) (by kernel_rfl)
        (opensF_cons (opens_int bulk Try.underlying34) (by kernel_rfl) (opensF_cons (opens_int bulk Try.underlying34) (by kernel_rfl)
        (opensF_cons (opens_slice bulk (bytes := 200) Try.underlying24 (by kernel_rfl) (by kernel_rfl) (by decide) fun m' hm' => ih m' (by omega)) (by kernel_rfl)
        (opensF_last (opens_slice bulk (bytes := 200) Try.underlying24 (by kernel_rfl) (by kernel_rfl) (by decide) fun m' hm' => ih m' (by omega)) (Nat.le_of_eq (by kernel_rfl)))))))))
    refine opens_kd (opens_weaken (opens_iso (f := fun x : S39 => (x.f0, x.f1, x.f2, x.f3, x.f4, x.f5, x.f6, x.f7)) (fun p => ⟨p.1, p.2.1, p.2.2.1, p.2.2.2.1, p.2.2.2.2.1, p.2.2.2.2.2.1, p.2.2.2.2.2.2.1, p.2.2.2.2.2.2.2⟩) (fun _ => rfl) h) ?_ ?_) ?_
    · rintro ⟨a, s, e, f, lo, hi, th, el⟩ ⟨h1, h2, h3, h4, h5, h6, h7, h8⟩
      exact ⟨h1, h2, h3, h4, h5, h6, h7.1, h8.1, (goodTs_iff th).2 h7.2, (goodTs_iff el).2 h8.2⟩
    · rintro ⟨a, s, e, f, lo, hi, th, el⟩
      simp only [bulkT, bulkTs_sum]
      omega
    · rintro x cs ⟨_, _, rfl, rfl, ⟨_, _, rfl, rfl, ⟨_, _, rfl, s2, ⟨_, _, rfl, s6, ⟨_, _, rfl, rfl, ⟨_, _, rfl, rfl, ⟨_, _, rfl, ⟨A12, c12, rfl, l12, g12⟩, ⟨A13, c13, rfl, l13, g13⟩⟩⟩⟩⟩⟩⟩⟩
      obtain ⟨A5, c5, rfl, l5, g5⟩ := k37_open s2
      obtain ⟨A9, c9, rfl, l9, g9⟩ := k37_open s6
      exact k39_mk w x l5 g5 l9 g9 l12 g12 l13 g13
theorem opensD (n : Nat) : Opens enc Try.prog w Rows.uptoBulk n 31 k31 goodD bulkD := by
  have h : Opens enc Try.prog w Rows.uptoBulk n 31 (Kd.pair (Kd.int .i64) (Kd.pair Kd.string (Kd.pair (Kd.int .i64) (Kd.slice 34 (Kd.int .u64))))) _ _ := opens_struct bulk (fs := [(3, 0), (9, 1), (3, 2), (29, 3)]) Try.underlying31 rfl fun m hm =>
    opensF_cons (opens_int bulk Try.underlying3) (by kernel_rfl) (opensF_cons (opens_string bulk Try.underlying9) (by kernel_rfl) (opensF_cons (opens_int bulk Try.underlying3) (by kernel_rfl)
      (opensF_last (opens_slice bulk (bytes := 8) Try.underlying29 (by kernel_rfl) (by kernel_rfl) (by decide) fun m' hm' => opens_int bulk Try.underlying34) (Nat.le_of_eq (by kernel_rfl)))))
  refine opens_weaken (opens_iso (f := fun x : S31 => (x.f0, x.f1, x.f2, x.f3)) (fun p => ⟨p.1, p.2.1, p.2.2.1, p.2.2.2⟩) (fun _ => rfl) h) ?_ ?_
  · rintro ⟨a, s, z, l⟩ ⟨h1, h2, h3, h4, h5⟩
    exact ⟨h1, h2, h3, h4, h5⟩
  · rintro ⟨a, s, z, l⟩
    simp only [bulkD, sum_ones]
    omega
/-- A program, by its fields. -/
structure Prog where
  nm : ByteArray
  wd : Int
  ln : Int
  ds : List S31
  bd : List S39
def kP : Kd Prog := Kd.iso (Kd.pair Kd.string (Kd.pair (Kd.int .i64) (Kd.pair (Kd.int .i64) (Kd.pair (Kd.slice 31 k31) (Kd.slice 39 k39))))) (fun x : Prog => (x.nm, x.wd, x.ln, x.ds, x.bd))
structure GoodP (x : Prog) : Prop where
  nm : okS x.nm
  wd : okI x.wd
  ln : okI x.ln
  dl : x.ds.length * 56 ≤ 140737488351232
  ds : ∀ d ∈ x.ds, goodD d
  bl : x.bd.length * 200 ≤ 140737488351232
  bd : ∀ t ∈ x.bd, goodT t
def bulkP (x : Prog) : Nat := 1 + x.nm.size + (x.ds.map bulkD).sum + bulkTs x.bd
theorem opensP (n : Nat) : Opens enc Try.prog w Rows.uptoBulk n 26 kP GoodP bulkP := by
  have h : Opens enc Try.prog w Rows.uptoBulk n 26 (Kd.pair Kd.string (Kd.pair (Kd.int .i64) (Kd.pair (Kd.int .i64) (Kd.pair (Kd.slice 31 k31) (Kd.slice 39 k39))))) _ _ := opens_struct bulk (fs := [(9, 0), (3, 1), (3, 2), (23, 3), (24, 4)]) Try.underlying26 rfl fun m hm =>
    opensF_cons (opens_string bulk Try.underlying9) (by kernel_rfl) (opensF_cons (opens_int bulk Try.underlying3) (by kernel_rfl) (opensF_cons (opens_int bulk Try.underlying3) (by kernel_rfl)
      (opensF_cons (opens_slice bulk (bytes := 56) Try.underlying23 (by kernel_rfl) (by kernel_rfl) (by decide) fun m' hm' => opensD m') (by kernel_rfl)
      (opensF_last (opens_slice bulk (bytes := 200) Try.underlying24 (by kernel_rfl) (by kernel_rfl) (by decide) fun m' hm' => opensT m') (Nat.le_of_eq (by kernel_rfl))))))
  refine opens_weaken (opens_iso (f := fun x : Prog => (x.nm, x.wd, x.ln, x.ds, x.bd)) (fun p => ⟨p.1, p.2.1, p.2.2.1, p.2.2.2.1, p.2.2.2.2⟩) (fun _ => rfl) h) ?_ ?_
  · rintro ⟨a, s, z, l, b⟩ ⟨h1, h2, h3, h4, h5⟩
    exact ⟨h1, h2, h3, h4.1, h4.2, h5.1, h5.2⟩
  · rintro ⟨a, s, z, l, b⟩
    simp only [bulkP, bulkTs_sum]
    omega
abbrev opensP_K (w : World) : Prog → List Value → Prop := kP.K w
abbrev opensP_good (x : Prog) : Prop := GoodP x
abbrev opensP_bulk (x : Prog) : Nat := bulkP x
end

/-- A program's value, by its cells. -/
theorem prog_of_K {w : World} {x : Prog} {v : Value} (hs : ∃ vs, v = .agg vs) (h : kP.K w x v.cells.toList) : ∃ A3 c3 A4 c4, v = .agg #[.string x.nm, .int .i64 x.wd, .int .i64 x.ln, .slice A3 x.ds.length c3, .slice A4 x.bd.length c4] ∧ x.ds.length ≤ c3 ∧ k31.C w A3 x.ds.length x.ds ∧ x.bd.length ≤ c4 ∧ k39.C w A4 x.bd.length x.bd := by
  obtain ⟨vs, rfl⟩ := hs
  obtain ⟨_, _, e, rfl, ⟨_, _, rfl, rfl, ⟨_, _, rfl, rfl, ⟨_, _, rfl, ⟨A3, c3, rfl, l3, g3⟩, ⟨A4, c4, rfl, l4, g4⟩⟩⟩⟩⟩ := h
  obtain ⟨vs⟩ := vs
  simp [Value.cells] at e
  subst e
  exact ⟨A3, c3, A4, c4, rfl, l3, g3, l4, g4⟩
end Go.Proofs.Ytnacekhfebjdfaa.Ot
