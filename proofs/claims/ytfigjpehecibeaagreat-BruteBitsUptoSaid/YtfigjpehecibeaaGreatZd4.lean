/- Texts joined by a program of mine: Gr Lb Lc Le Ld0 Lf LsAlt LsAgt LsA1 LsA2. -/
import Derived.Below
import Derived.BigQuiet
import Derived.WalkKit
import Derived.KernelRfl
import Derived.Lib.Bytes
import Derived.Test.YtfigjpehecibeaaGreatZd3
section
set_option linter.unusedVariables false
namespace Go.Proofs.YtfigjpehecibeaaGreat.Gr
open Go.RowKit
def G (w : World) := { W : World // Below w.heap.size w W }
instance (w : World) : Nonempty (G w) := ⟨⟨w, Below.refl _ _⟩⟩
def G.W {w : World} (g : G w) : World := g.1
theorem G.below {w : World} (g : G w) : Below w.heap.size w g.W := g.2
theorem G.cell {w : World} (g : G w) {b o : Nat} (h : b < w.heap.size) : g.W.cell? ⟨b, o, none⟩ = w.cell? ⟨b, o, none⟩ := g.below.cell (p := ⟨b, o, none⟩) h
theorem G.cellA {w : World} (g : G w) {a : Addr} (h : a.block < w.heap.size) : g.W.cell? a = w.cell? a := g.below.cell h
theorem G.held {w : World} (g : G w) {a : Addr} {v : Value} (h : w.cell? a = some v) : g.W.cell? a = some v := (g.cellA (World.block_lt_of_cell? w a h)).trans h
section
variable {P : Program}
theorem wp_region_grown {id : Nat} {Q : Exit → Act → World → Prop} {a : Act} {w : World} {l : List Oper} (hm : P.follows .mixedOrders = true) (hB : Region.lexB .any l.toArray = true)
    (h : wpQuiet P l.toArray (fun w' => ∃ g : G w, w' = g.W) (fun a' => ∀ w', (∃ g : G w, w' = g.W) → Q .normal a' w') l a) : (Code.region id l.toArray true).wp P Q a w :=
  wp_region_quiet (C := fun w' => ∃ g : G w, w' = g.W) hm hB ⟨⟨_, (Below.refl _ _).drew⟩, rfl⟩ (by simpa using h)
theorem call_of {f : FuncId} {args : Array Value} {w : World} {g : G w} {v : Value} (h : Calls P f args g.W fun e w' => e = .returned v ∧ Below g.W.heap.size g.W w') :
    Calls P f args g.W fun e w'' => e = .returned v ∧ ∃ g' : G w, w'' = g'.W :=
  h.mono fun _ w' ⟨he, hb⟩ => ⟨he, ⟨⟨w', g.below.trans (hb.mono g.below.size)⟩, rfl⟩⟩
end
end Go.Proofs.YtfigjpehecibeaaGreat.Gr
end
section
namespace Go.Proofs.YtfigjpehecibeaaGreat.L
open Go.RowKit Go.Proofs.YtfigjpehecibeaaGreatW.PrintWords Go.Proofs.YtfigjpehecibeaaGreatW.PrintLast Go.Proofs.YtfigjpehecibeaaGreatW.PrintMore Go.Proofs.YtfigjpehecibeaaGreat.Gr
set_option linter.unusedVariables false
set_option linter.unusedSimpArgs false
def partsN (k : Int) : Int := if k < 1 then -1 else if k > 26 then -1 else if k = 1 then 0 else if k = 2 then 0 else if k = 3 then 1 else if k = 4 then 1 else if k = 5 then 1 else if k = 26 then 3 else 2
theorem parts_eq (k : Int) : lang_parts.f 5 k = some (partsN k) := by
  unfold lang_parts.f partsN
  simp only [lang_parts.j0, lang_parts.j1, lang_parts.j2]
  repeat' split
  all_goals (first | rfl | (exfalso; simp_all; done) | (exfalso; simp_all; omega))
theorem refParts_eq (k : Int) : cadenceref15_Parts.f 5 k = some (partsN k) := by
  unfold cadenceref15_Parts.f partsN
  simp only [cadenceref15_Parts.j0]
  repeat' split
  all_goals (first | rfl | (exfalso; simp_all; done) | (exfalso; simp_all; omega))
theorem parts_calls (k : Int) (w : World) : Calls Tryz.prog 281 #[.int .i64 k] w fun e w' => e = .returned (.int .i64 (partsN k)) ∧ Below w.heap.size w w' := (lang_parts.calls 5 k _ w (parts_eq k)).mono fun _ _ ⟨he, hd⟩ => ⟨he, hd.below⟩
theorem refParts_calls (k : Int) (w : World) : Calls Tryz.prog 282 #[.int .i64 k] w fun e w' => e = .returned (.int .i64 (partsN k)) ∧ Below w.heap.size w w' := (cadenceref15_Parts.calls 5 k _ w (refParts_eq k)).mono fun _ _ ⟨he, hd⟩ => ⟨he, hd.below⟩
def resB (s : ByteArray) : Bool := (lang_Reserved.f s).getD false
theorem Reserved_eq (s : ByteArray) : lang_Reserved.f s = some (resB s) := by
  have si : ∀ (c : Prop) [Decidable c] (b : Bool), (if c then some true else some b) = some (if c then true else b) := fun c _ b => by split <;> rfl
  have h : ∃ b, lang_Reserved.f s = some b := by
    unfold lang_Reserved.f
    simp only [si]
    exact ⟨_, rfl⟩
  obtain ⟨b, h⟩ := h
  unfold resB
  rw [h]; rfl
theorem found (s : ByteArray) (l : List ByteArray) (hl : l.length ≤ 100) : ∀ (d i k : Nat), i + d = l.length → d < k →
    cadenceref15_Reserved.l0 k s l (i : Int) = some ((l.drop i).any fun x => decide (s.toList = x.toList)) := by
  intro d
  induction d with
  | zero =>
    intro i k h hk
    obtain ⟨k, rfl⟩ : ∃ a, k = a + 1 := ⟨k - 1, by omega⟩
    rw [cadenceref15_Reserved.l0, if_neg (by omega), List.drop_eq_nil_of_le (by omega)]; rfl
  | succ d ih =>
    intro i k h hk
    obtain ⟨k, rfl⟩ : ∃ a, k = a + 1 := ⟨k - 1, by omega⟩
    have hi : i < l.length := by omega
    have e : wrap64 ((i : Int) + 1) = ((i + 1 : Nat) : Int) := by unfold wrap64; omega
    have er : rdOf ByteArray.empty l (i : Int) = l[i] := by simp [rdOf, List.getD_eq_getElem?_getD, hi]
    rw [cadenceref15_Reserved.l0, if_pos (by omega), if_pos (by omega), e, ih (i + 1) k (by omega) (by omega), er, List.drop_eq_getElem_cons hi, List.any_cons]
    by_cases g : l[i].toList = s.toList
    · rw [if_pos g, decide_eq_true g.symm]; rfl
    · rw [if_neg g, decide_eq_false (fun h => g h.symm)]; rfl
theorem refReserved_eq (s : ByteArray) : cadenceref15_Reserved.f 30 s = some (resB s) := by
  rw [← Reserved_eq]
  unfold lang_Reserved.f cadenceref15_Reserved.f
  rw [show (0 : Int) = ((0 : Nat) : Int) from rfl, found s _ (by decide) 17 0 30 rfl (by decide)]
  simp only [List.drop_zero, List.any_cons, List.any_nil]
  have lay : ∀ (l : List UInt8) (k : Bool), (decide (s.toList = (⟨l.toArray⟩ : ByteArray).toList) || k) = if s.toList = l then true else k := by
    intro l k
    rw [Lib.toList_data (⟨l.toArray⟩ : ByteArray)]
    by_cases h : s.toList = l
    · rw [if_pos h, decide_eq_true h]; rfl
    · rw [if_neg h, decide_eq_false h]; rfl
  simp only [lay]
  have si : ∀ (c : Prop) [Decidable c] (b : Bool), (if c then some true else some b) = some (if c then true else b) := fun c _ b => by split <;> rfl
  simp only [si]
theorem Letter_eq (c : Int) : cadenceref01_Letter.f c = some (letB c) := by
  have h95 : (c == 95) = decide (c = 95) := by by_cases h : c = 95 <;> simp [h]
  unfold cadenceref01_Letter.f letB
  rw [h95]
  repeat' split
  all_goals (congr 1; first | (symm; apply decide_eq_true; omega) | (rw [Bool.eq_iff_iff]; simp only [decide_eq_true_eq]; omega))
theorem tail_eq (s : ByteArray) (hs : s.size ≤ 24) : ∀ (d i k : Nat), i + d = s.size → d < k → 1 ≤ i → cadenceref01_Name.l0 k s (i : Int) = some (((List.range s.size).drop i).all (okB s)) := by
  intro d
  induction d with
  | zero =>
    intro i k h hk _
    obtain ⟨k, rfl⟩ : ∃ a, k = a + 1 := ⟨k - 1, by omega⟩
    rw [cadenceref01_Name.l0, if_neg (by omega), List.drop_eq_nil_of_le (by simp; omega)]; rfl
  | succ d ih =>
    intro i k h hk hi1
    obtain ⟨k, rfl⟩ : ∃ a, k = a + 1 := ⟨k - 1, by omega⟩
    have hw : wrap64 ((i : Int) + 1) = ((i + 1 : Nat) : Int) := by unfold wrap64; omega
    rw [cadenceref01_Name.l0, if_pos (by omega), if_pos (by omega), Letter_eq, Option.bind_some, hw, ih (i + 1) k (by omega) (by omega) (by omega)]
    have hd : okB s i = (letB (bt s i) || digB (bt s i)) := by unfold okB; rw [decide_eq_true hi1]; rfl
    rw [List.drop_eq_getElem_cons (show i < (List.range s.size).length by simp; omega), List.all_cons, List.getElem_range]
    by_cases l : letB (bt s i) = true
    · rw [if_pos l, hd, l]; rfl
    · rw [if_neg l]
      have l' := Bool.eq_false_iff.2 l
      by_cases c1 : bt s i < 48
      · rw [if_pos c1, show okB s i = false from by rw [hd, l']; unfold digB; simp; omega]; rfl
      rw [if_neg c1]
      by_cases c2 : bt s i > 57
      · rw [if_pos c2, show okB s i = false from by rw [hd, l']; unfold digB; simp; omega]; rfl
      rw [if_neg c2, show okB s i = true from by rw [hd, l']; unfold digB; simp; omega]; rfl
theorem refNm_eq (s : ByteArray) : cadenceref01_Name.f 30 s = some (nmB s) := by
  unfold cadenceref01_Name.f nmB
  by_cases h1 : (s.size : Int) < 1
  · rw [if_pos h1, cadenceref01_Name.j0, if_pos rfl, decide_eq_false (show ¬ 1 ≤ s.size by omega)]; rfl
  rw [if_neg h1]
  by_cases h2 : (s.size : Int) > 24
  · rw [if_pos h2, cadenceref01_Name.j0, if_pos rfl, decide_eq_false (show ¬ s.size ≤ 24 by omega)]; simp
  rw [if_neg h2, if_pos (by omega), Letter_eq, Option.bind_some, decide_eq_true (show 1 ≤ s.size by omega), decide_eq_true (show s.size ≤ 24 by omega), cadenceref01_Name.j0]
  have h0 : okB s 0 = letB (bt s 0) := by unfold okB; simp
  by_cases l : letB (bt s 0) = true
  · rw [l, if_neg (by decide), show (1 : Int) = ((1 : Nat) : Int) from rfl, tail_eq s (by omega) (s.size - 1) 1 29 (by omega) (by omega) (by omega)]
    have e : (List.range s.size).all (okB s) = ((List.range s.size).drop 0).all (okB s) := by rw [List.drop_zero]
    rw [e, List.drop_eq_getElem_cons (show 0 < (List.range s.size).length by simp; omega), List.all_cons, List.getElem_range, h0, l]
    rfl
  · have l' := Bool.eq_false_iff.2 l
    rw [l', if_pos (by decide)]
    congr 1
    symm
    simp only [Bool.true_and, List.all_eq_false]
    exact ⟨0, List.mem_range.2 (by omega), by rw [h0, l']; decide⟩
def namedB (s : ByteArray) : Bool := nmB s && !resB s
theorem named_eq (s : ByteArray) : lang_named.f s = some (namedB s) := by
  unfold lang_named.f bits_Name.f namedB
  rw [Reserved_eq, Option.bind_some, Option.bind_some]
  by_cases h : nmB s = true
  · rw [if_pos h, h]; rfl
  · rw [if_neg h, Bool.eq_false_iff.2 h]; rfl
theorem refName_eq (s : ByteArray) : cadenceref15_Name.f 30 s = some (namedB s) := by
  unfold cadenceref15_Name.f namedB
  rw [refNm_eq, refReserved_eq, Option.bind_some, Option.bind_some]
  by_cases h : nmB s = true
  · rw [if_pos h, h]; rfl
  · rw [if_neg h, Bool.eq_false_iff.2 h]; rfl
theorem named_calls (s : ByteArray) (w : World) : Calls Tryz.prog 119 #[.string s] w fun e w' => e = .returned (.bool (namedB s)) ∧ Below w.heap.size w w' := lang_named.calls s _ w (named_eq s)
theorem refName_calls (s : ByteArray) (w : World) : Calls Tryz.prog 124 #[.string s] w fun e w' => e = .returned (.bool (namedB s)) ∧ Below w.heap.size w w' := cadenceref15_Name.calls 30 s _ w (refName_eq s)
def noneB (x : S116) : Bool := x.f0 == 0 && x.f1 == 0 && x.f2.toList.isEmpty && (x.f3.length : Int) == 0
theorem none_eq (x : S116) : lang_none.f x.f0 x.f1 x.f2 x.f3 = some (noneB x) := by
  unfold lang_none.f noneB
  by_cases h0 : x.f0 = 0
  · by_cases h1 : x.f1 = 0
    · by_cases h2 : x.f2.toList = []
      · simp [h0, h1, h2]
      · have : x.f2.toList.isEmpty = false := by simpa using h2
        rw [if_pos h0, if_pos h1, if_neg h2, this]; simp
    · simp [h0, h1]
  · simp [h0]
theorem none_calls (x : S116) (A : Option Addr) (c : Nat) (w : World) (hc : k116.C w A x.f3.length x.f3) (hl : x.f3.length ≤ c) : Calls Tryz.prog 241 #[.agg #[.int .i64 x.f0, .int .u64 x.f1, .string x.f2, .slice A x.f3.length c]] w fun e w' => e = .returned (.bool (noneB x)) ∧ Below w.heap.size w w' := lang_none.calls x.f0 x.f1 x.f2 A c x.f3 _ w hc hl (none_eq x)
theorem refNone_calls (x : S116) (A : Option Addr) (c : Nat) (w : World) (hc : k116.C w A x.f3.length x.f3) (hl : x.f3.length ≤ c) : Calls Tryz.prog 244 #[.agg #[.int .i64 x.f0, .int .u64 x.f1, .string x.f2, .slice A x.f3.length c]] w fun e w' => e = .returned (.bool (noneB x)) ∧ Below w.heap.size w w' := cadenceref15_none.calls x.f0 x.f1 x.f2 A c x.f3 _ w hc hl (none_eq x)
end Go.Proofs.YtfigjpehecibeaaGreat.L
end
section
namespace Go.Proofs.YtfigjpehecibeaaGreat.L
open Go.RowKit Go.Proofs.YtfigjpehecibeaaGreatW.PrintWords Go.Proofs.YtfigjpehecibeaaGreatW.PrintLast Go.Proofs.YtfigjpehecibeaaGreatW.PrintMore Go.Proofs.YtfigjpehecibeaaGreat.Gr
set_option linter.unusedVariables false
set_option linter.unusedSimpArgs false
def hasB (k : Int) : Bool := k == 2 || k == 3
def exOwn (x : S116) : Bool := (partsN x.f0 == (x.f3.length : Int)) && (hasB x.f0 == !x.f2.toList.isEmpty) && (!hasB x.f0 || namedB x.f2) && (x.f0 == 1 || x.f1 == 0)
mutual
def exB : S116 → Bool
  | ⟨a, b, c, l⟩ => exOwn ⟨a, b, c, l⟩ && exL l
def exL : List S116 → Bool
  | [] => true
  | x :: r => exB x && exL r
end
theorem exL_all (l : List S116) : exL l = l.all exB := by
  induction l with
  | nil => rfl
  | cons x r ih => rw [exL, ih, List.all_cons]
theorem exB_eq (x : S116) : exB x = (exOwn x && x.f3.all exB) := by
  obtain ⟨a, b, c, l⟩ := x
  rw [exB, exL_all]
theorem ret_bool2 {a b : Bool} (h : a = b) : Ending.returned (.bool a) = .returned (.bool b) := by rw [h]
attribute [local go_sem] G.cell
theorem all_has_no {l : List S116} {y : S116} (h : y ∈ l) (hn : exB y = false) : false = l.all exB := by
  symm
  rw [List.all_eq_false]
  exact ⟨y, h, by rw [hn]; decide⟩
theorem all_have {l : List S116} (h : ∀ j, j < l.length → exB (rd_T116 l (j : Int)) = true) : true = l.all exB := by
  symm
  rw [List.all_eq_true]
  intro y hy
  obtain ⟨j, hj, rfl⟩ := List.getElem_of_mem hy
  have := h j hj
  unfold rd_T116 at this
  rwa [Int.toNat_natCast, List.getD_eq_getElem?_getD, List.getElem?_eq_getElem hj] at this
theorem bcases (b : Bool) : b = true ∨ b = false := by cases b <;> simp
theorem ex_ways (b2 b3 b1 z p nm e : Bool) (h21 : b2 = true → b1 = true) (h31 : b3 = true → b1 = true) :
    (((p = true ∧ b2 = true) ∨ (p = true ∧ b2 = false ∧ b3 = true) ∨ (p = true ∧ b2 = false ∧ b3 = false) ∨
    (p = false ∧ b2 = true ∧ e = true) ∨ (p = false ∧ b2 = false ∧ b3 = true ∧ e = true) ∨ (p = false ∧ b2 = false ∧ b3 = false ∧ e = false) ∨
    (p = false ∧ b2 = true ∧ e = false ∧ nm = false) ∨ (p = false ∧ b2 = false ∧ b3 = true ∧ e = false ∧ nm = false) ∨
    (p = false ∧ b2 = true ∧ e = false ∧ nm = true ∧ b1 = true ∧ z = true) ∨ (p = false ∧ b2 = false ∧ b3 = true ∧ e = false ∧ nm = true ∧ b1 = true ∧ z = true) ∨
    (p = false ∧ b2 = false ∧ b3 = false ∧ e = true ∧ b1 = true ∧ z = true)) ∧ (!p && ((b2 || b3) == !e) && (!(b2 || b3) || nm) && (!b1 || !z)) = false) ∨
    (((p = false ∧ b2 = true ∧ e = false ∧ nm = true ∧ b1 = true ∧ z = false) ∨ (p = false ∧ b2 = false ∧ b3 = true ∧ e = false ∧ nm = true ∧ b1 = true ∧ z = false) ∨
    (p = false ∧ b2 = false ∧ b3 = false ∧ e = true ∧ b1 = false) ∨ (p = false ∧ b2 = false ∧ b3 = false ∧ e = true ∧ b1 = true ∧ z = false)) ∧ (!p && ((b2 || b3) == !e) && (!(b2 || b3) || nm) && (!b1 || !z)) = true) := by
  revert h21 h31
  cases b2 <;> cases b3 <;> cases b1 <;> cases z <;> cases p <;> cases nm <;> cases e <;> simp
theorem exOwn_eq (x : S116) : exOwn x = (!(partsN x.f0 != (x.f3.length : Int)) && (((x.f0 == 2) || (x.f0 == 3)) == !x.f2.toList.isEmpty) && (!((x.f0 == 2) || (x.f0 == 3)) || namedB x.f2) && (!(x.f0 != 1) || !(x.f1 != 0))) := by
  unfold exOwn hasB
  simp [bne]
set_option maxHeartbeats 8000000 in
set_option maxRecDepth 100000 in
theorem exprForm_walk (x : S116) (A : Option Addr) (c : Nat) (w : World) (hc : k116.C w A x.f3.length x.f3) (hl : x.f3.length ≤ c)
    (ih : ∀ y ∈ x.f3, ∀ (A' : Option Addr) (c' : Nat) (w' : World), k116.C w' A' y.f3.length y.f3 → y.f3.length ≤ c' → Calls Tryz.prog 240 #[.agg #[.int .i64 y.f0, .int .u64 y.f1, .string y.f2, .slice A' y.f3.length c']] w' fun e w'' => e = .returned (.bool (exB y)) ∧ Below w'.heap.size w' w'') :
    Calls Tryz.prog 240 #[.agg #[.int .i64 x.f0, .int .u64 x.f1, .string x.f2, .slice A x.f3.length c]] w fun e w' => e = .returned (.bool (exOwn x && x.f3.all exB)) ∧ Below w.heap.size w w' := by
  have hw := ex_ways (x.f0 == 2) (x.f0 == 3) (x.f0 != 1) (x.f1 != 0) (partsN x.f0 != (x.f3.length : Int)) (namedB x.f2) x.f2.toList.isEmpty (by simp; omega) (by simp; omega)
  rw [← exOwn_eq] at hw
  have IH := Aside0.mk ih
  have HC := Aside0.mk hc
  clear ih hc
  obtain ⟨x0, x1, x2, x3⟩ := x
  simp only at *
  rcases hw with ⟨hw, ho⟩ | ⟨hw, ho⟩
  · rw [ho, Bool.false_and]
    clear ho HC IH
    generalize x3.length = n at *
    rcases hw with ⟨hp, h2⟩ | ⟨hp, h2, h3⟩ | ⟨hp, h2, h3⟩ | ⟨hp, h2, he⟩ | ⟨hp, h2, h3, he⟩ | ⟨hp, h2, h3, he⟩ | ⟨hp, h2, he, hn⟩ | ⟨hp, h2, h3, he, hn⟩ | ⟨hp, h2, he, hn, h1, hz⟩ | ⟨hp, h2, h3, he, hn, h1, hz⟩ | ⟨hp, h2, h3, he, h1, hz⟩
    all_goals
      try (have he2 : x2.toList = [] := List.isEmpty_iff.1 he)
      try (have he2 : ¬ x2.toList = [] := by intro h; rw [h] at he; exact absurd he (by decide))
      go_enter Tryz.func240, Tryz.ntmps240
      go_upto_region 2 with (fail)
      all_goals
        refine wp_region_grown (by kernel_rfl) (by kernel_rfl) ?_
        repeat (go_big_quiet_step (first | (go_at_call 281; exact call_of (parts_calls _ _)) | (go_at_call 119; (first | rw [← hn] | skip); exact call_of (named_calls _ _))))
        refine wpQuiet_nil ?_
        rintro _ ⟨g, rfl⟩
        go_wp2
        go_ret
        exact ⟨rfl, ((Below.refl _ _).alloc (Nat.le_refl _) _).trans (g.below.mono (by simp))⟩
  · rw [ho, Bool.true_and]
    clear ho
    have hlm := HC.out.2.1
    rcases hw with ⟨hp, h2, he, hn, h1, hz⟩ | ⟨hp, h2, h3, he, hn, h1, hz⟩ | ⟨hp, h2, h3, he, h1⟩ | ⟨hp, h2, h3, he, h1, hz⟩
    all_goals
      try (have he2 : x2.toList = [] := List.isEmpty_iff.1 he)
      try (have he2 : ¬ x2.toList = [] := by intro h; rw [h] at he; exact absurd he (by decide))
      go_enter Tryz.func240, Tryz.ntmps240
      go_upto_region 2 with (fail)
      all_goals
        refine wp_region_grown (by kernel_rfl) (by kernel_rfl) ?_
        repeat (go_big_quiet_step (first | (go_at_call 281; exact call_of (parts_calls _ _)) | (go_at_call 119; (first | rw [← hn] | skip); exact call_of (named_calls _ _))))
        refine wpQuiet_nil ?_
        rintro _ ⟨g, rfl⟩
        have HG := Aside0.mk (((Below.refl w.heap.size w).alloc (Nat.le_refl _) _).trans (g.below.mono (by simp)))
        clear hp h2 he h1 he2
        try clear hn
        try clear hz
        try clear h3
        go_wp2
        go_loopw [50] (fun i W => ∃ k : Nat, i = .int .i64 k ∧ k ≤ x3.length ∧ Aside0 (Below w.heap.size w W) ∧ Aside0 (∀ j, j < k → exB (rd_T116 x3 (j : Int)) = true)) (fun i _ => x3.length - (intOf i).toNat)
        case atStart => exact ⟨0, rfl, Nat.zero_le _, HG, ⟨fun j hj => absurd hj (Nat.not_lt_zero _)⟩⟩
        case round =>
          clear HG
          obtain ⟨k, rfl, hk, HB, HK⟩ := hrel
          by_cases hlt : k < x3.length
          · obtain ⟨ad, A3, c3, e1, q0, q1, q2, q3, l3, g3⟩ := at_T116 HC.out (k : Int) (Int.natCast_nonneg _) (by omega)
            cases e1
            rw [Int.toNat_natCast] at q0 q1 q2 q3
            have b0 := World.block_lt_of_cell? w _ q0
            replace q0 := (HB.out.cell b0).trans q0
            replace q1 := (HB.out.cell (World.block_lt_of_cell? w _ q1)).trans q1
            replace q2 := (HB.out.cell (World.block_lt_of_cell? w _ q2)).trans q2
            replace q3 := (HB.out.cell (World.block_lt_of_cell? w _ q3)).trans q3
            have hi1 : (k : Int) < (x3.length : Int) := by omega
            have G3 := Aside0.mk g3
            have L3 := Aside0.mk l3
            clear g3 l3
            have MEM := Aside0.mk (show rd_T116 x3 (k : Int) ∈ x3 by unfold rd_T116; rw [Int.toNat_natCast, List.getD_eq_getElem?_getD, List.getElem?_eq_getElem hlt]; exact List.getElem_mem _)
            have HB2 := Aside0.mk (HB.out.alloc (HB.out.size) (.cells #[Value.int IntKind.i64 (rd_T116 x3 (k : Int)).f0, Value.int IntKind.u64 (rd_T116 x3 (k : Int)).f1, Value.string (rd_T116 x3 (k : Int)).f2, Value.slice A3 (rd_T116 x3 (k : Int)).f3.length c3] 116))
            have hy := bcases (exB (rd_T116 x3 (k : Int)))
            rcases hy with hy | hy
            all_goals
              have HY := Aside0.mk hy
              clear hy
              go_wp2_with fail
              refine (IH.out _ MEM.out A3 c3 _ (Kd.C_below G3.out HB2.out) L3.out).mono ?_
              rw [HY.out]
              rintro e w' ⟨rfl, hb⟩
              have HB3 := Aside0.mk (HB2.out.trans (hb.mono (HB2.out.size)))
              clear hb
              go_wp2
            · refine ⟨⟨k + 1, by go_num, by omega, HB3, ⟨fun j hj => ?_⟩⟩, by simp [intOf]; omega⟩
              by_cases hj2 : j = k
              · rw [hj2]; exact HY.out
              · exact HK.out j (by omega)
            · go_ret
              exact ⟨ret_bool2 (all_has_no MEM.out HY.out), HB3.out⟩
          · go_wp2
            go_ret
            exact ⟨ret_bool2 (all_have (fun j hj => HK.out j (by omega))), HB.out⟩
theorem exprForm_calls : ∀ (n : Nat) (x : S116), SizeOf.sizeOf x ≤ n → ∀ (A : Option Addr) (c : Nat) (w : World), k116.C w A x.f3.length x.f3 → x.f3.length ≤ c → Calls Tryz.prog 240 #[.agg #[.int .i64 x.f0, .int .u64 x.f1, .string x.f2, .slice A x.f3.length c]] w fun e w' => e = .returned (.bool (exB x)) ∧ Below w.heap.size w w' := by
  intro n
  induction n with
  | zero => intro x h; obtain ⟨a, b, c, l⟩ := x; simp at h
  | succ n ih =>
    intro x h A c w hc hl
    rw [exB_eq]
    refine exprForm_walk x A c w hc hl fun y hy A' c' w' hc' hl' => ih y ?_ A' c' w' hc' hl'
    have := List.sizeOf_lt_of_mem hy
    obtain ⟨a, b, c, l⟩ := x
    simp at h this
    omega
end Go.Proofs.YtfigjpehecibeaaGreat.L
end
section
namespace Go.Proofs.YtfigjpehecibeaaGreat.L
open Go.RowKit Go.Proofs.YtfigjpehecibeaaGreatW.PrintWords Go.Proofs.YtfigjpehecibeaaGreatW.PrintLast Go.Proofs.YtfigjpehecibeaaGreatW.PrintMore Go.Proofs.YtfigjpehecibeaaGreat.Gr
set_option linter.unusedVariables false
set_option linter.unusedSimpArgs false
attribute [local go_sem] G.cell
abbrev gw {w : World} (_ : G w) : World := w
set_option maxHeartbeats 8000000 in
set_option maxRecDepth 100000 in
theorem refExprForm_walk (x : S116) (A : Option Addr) (c : Nat) (w : World) (hc : k116.C w A x.f3.length x.f3) (hl : x.f3.length ≤ c)
    (ih : ∀ y ∈ x.f3, ∀ (A' : Option Addr) (c' : Nat) (w' : World), k116.C w' A' y.f3.length y.f3 → y.f3.length ≤ c' → Calls Tryz.prog 243 #[.agg #[.int .i64 y.f0, .int .u64 y.f1, .string y.f2, .slice A' y.f3.length c']] w' fun e w'' => e = .returned (.bool (exB y)) ∧ Below w'.heap.size w' w'') :
    Calls Tryz.prog 243 #[.agg #[.int .i64 x.f0, .int .u64 x.f1, .string x.f2, .slice A x.f3.length c]] w fun e w' => e = .returned (.bool (exOwn x && x.f3.all exB)) ∧ Below w.heap.size w w' := by
  have hw := ex_ways (x.f0 == 2) (x.f0 == 3) (x.f0 != 1) (x.f1 != 0) ((x.f3.length : Int) != partsN x.f0) (namedB x.f2) x.f2.toList.isEmpty (by simp; omega) (by simp; omega)
  rw [show ((x.f3.length : Int) != partsN x.f0) = (partsN x.f0 != (x.f3.length : Int)) from bne_comm, ← exOwn_eq, show (partsN x.f0 != (x.f3.length : Int)) = ((x.f3.length : Int) != partsN x.f0) from bne_comm] at hw
  have IH := Aside0.mk ih
  have HC := Aside0.mk hc
  clear ih hc
  obtain ⟨x0, x1, x2, x3⟩ := x
  simp only at *
  rcases hw with ⟨hw, ho⟩ | ⟨hw, ho⟩
  · rw [ho, Bool.false_and]
    clear ho HC IH
    generalize x3.length = n at *
    rcases hw with ⟨hp, h2⟩ | ⟨hp, h2, h3⟩ | ⟨hp, h2, h3⟩ | ⟨hp, h2, he⟩ | ⟨hp, h2, h3, he⟩ | ⟨hp, h2, h3, he⟩ | ⟨hp, h2, he, hn⟩ | ⟨hp, h2, h3, he, hn⟩ | ⟨hp, h2, he, hn, h1, hz⟩ | ⟨hp, h2, h3, he, hn, h1, hz⟩ | ⟨hp, h2, h3, he, h1, hz⟩
    all_goals
      try (have he2 : x2.toList = [] := List.isEmpty_iff.1 he)
      try (have he2 : ¬ x2.toList = [] := by intro h; rw [h] at he; exact absurd he (by decide))
      go_enter Tryz.func243, Tryz.ntmps243
      go_upto_region 2 with (fail)
      all_goals
        refine wp_region_grown (by kernel_rfl) (by kernel_rfl) ?_
        repeat (go_big_quiet_step (first | (go_at_call 282; exact call_of (refParts_calls _ _)) | (go_at_call 124; (first | rw [← hn] | skip); exact call_of (refName_calls _ _))))
        refine wpQuiet_nil ?_
        rintro _ ⟨g, rfl⟩
        go_wp2
        go_ret
        exact ⟨rfl, ((Below.refl _ _).alloc (Nat.le_refl _) _).trans (g.below.mono (by simp))⟩
  · rw [ho, Bool.true_and]
    clear ho
    have hlm := HC.out.2.1
    rcases hw with ⟨hp, h2, he, hn, h1, hz⟩ | ⟨hp, h2, h3, he, hn, h1, hz⟩ | ⟨hp, h2, h3, he, h1⟩ | ⟨hp, h2, h3, he, h1, hz⟩
    all_goals
      try (have he2 : x2.toList = [] := List.isEmpty_iff.1 he)
      try (have he2 : ¬ x2.toList = [] := by intro h; rw [h] at he; exact absurd he (by decide))
      go_enter Tryz.func243, Tryz.ntmps243
      go_upto_region 2 with (fail)
      all_goals
        refine wp_region_grown (by kernel_rfl) (by kernel_rfl) ?_
        repeat (go_big_quiet_step (first | (go_at_call 282; exact call_of (refParts_calls _ _)) | (go_at_call 124; (first | rw [← hn] | skip); exact call_of (refName_calls _ _))))
        refine wpQuiet_nil ?_
        rintro _ ⟨g, rfl⟩
        clear hp h2 he h1 he2
        try clear hn
        try clear hz
        try clear h3
        have gout : ∀ {o : Obj} (g : G (w.alloc o)), Below w.heap.size w g.W := fun g => ((Below.refl _ _).alloc (Nat.le_refl _) _).trans (g.below.mono (by simp))
        go_wp2
        go_loopw [4] (fun i W => ∃ (k : Nat) (g' : G (gw g)), i = .int .i64 k ∧ W = g'.W ∧ k ≤ x3.length ∧ Aside0 (∀ j, j < k → exB (rd_T116 x3 (j : Int)) = true)) (fun i _ => x3.length - (intOf i).toNat)
        case atStart => exact ⟨0, g, rfl, rfl, Nat.zero_le _, ⟨fun j hj => absurd hj (Nat.not_lt_zero _)⟩⟩
        case round =>
          obtain ⟨k, g', rfl, rfl, hk, HK⟩ := hrel
          by_cases hlt : k < x3.length
          · obtain ⟨ad, A3, c3, e1, q0, q1, q2, q3, l3, g3⟩ := at_T116 HC.out (k : Int) (Int.natCast_nonneg _) (by omega)
            cases e1
            rw [Int.toNat_natCast] at q0 q1 q2 q3
            replace q0 := ((gout g').cell (World.block_lt_of_cell? w _ q0)).trans q0
            replace q1 := ((gout g').cell (World.block_lt_of_cell? w _ q1)).trans q1
            replace q2 := ((gout g').cell (World.block_lt_of_cell? w _ q2)).trans q2
            replace q3 := ((gout g').cell (World.block_lt_of_cell? w _ q3)).trans q3
            have hi1 : (k : Int) < (x3.length : Int) := by omega
            have G3 := Aside0.mk g3
            have L3 := Aside0.mk l3
            clear g3 l3
            have MEM := Aside0.mk (show rd_T116 x3 (k : Int) ∈ x3 by unfold rd_T116; rw [Int.toNat_natCast, List.getD_eq_getElem?_getD, List.getElem?_eq_getElem hlt]; exact List.getElem_mem _)
            have hy := bcases (exB (rd_T116 x3 (k : Int)))
            rcases hy with hy | hy
            all_goals
              have HY := Aside0.mk hy
              clear hy
              go_wp2_with fail
              refine (call_of (IH.out _ MEM.out A3 c3 _ (Kd.C_below G3.out (gout _)) L3.out)).mono ?_
              rw [HY.out]
              rintro _ _ ⟨rfl, gg, rfl⟩
              go_wp2
            · refine ⟨⟨k + 1, gg, by go_num, rfl, by omega, ⟨fun j hj => ?_⟩⟩, by simp [intOf]; omega⟩
              by_cases hj2 : j = k
              · rw [hj2]; exact HY.out
              · exact HK.out j (by omega)
            · go_ret
              exact ⟨ret_bool2 (all_has_no MEM.out HY.out), gout _⟩
          · go_wp2
            go_ret
            exact ⟨ret_bool2 (all_have (fun j hj => HK.out j (by omega))), gout _⟩
theorem refExprForm_calls : ∀ (n : Nat) (x : S116), SizeOf.sizeOf x ≤ n → ∀ (A : Option Addr) (c : Nat) (w : World), k116.C w A x.f3.length x.f3 → x.f3.length ≤ c → Calls Tryz.prog 243 #[.agg #[.int .i64 x.f0, .int .u64 x.f1, .string x.f2, .slice A x.f3.length c]] w fun e w' => e = .returned (.bool (exB x)) ∧ Below w.heap.size w w' := by
  intro n
  induction n with
  | zero => intro x h; obtain ⟨a, b, c, l⟩ := x; simp at h
  | succ n ih =>
    intro x h A c w hc hl
    rw [exB_eq]
    refine refExprForm_walk x A c w hc hl fun y hy A' c' w' hc' hl' => ih y ?_ A' c' w' hc' hl'
    have := List.sizeOf_lt_of_mem hy
    obtain ⟨a, b, c, l⟩ := x
    simp at h this
    omega
end Go.Proofs.YtfigjpehecibeaaGreat.L
end
section
namespace Go.Proofs.YtfigjpehecibeaaGreat.L
open Go.RowKit Go.Proofs.YtfigjpehecibeaaGreatW.PrintWords Go.Proofs.YtfigjpehecibeaaGreatW.PrintLast Go.Proofs.YtfigjpehecibeaaGreatW.PrintMore Go.Proofs.YtfigjpehecibeaaGreat.Gr
set_option linter.unusedVariables false
set_option linter.unusedSimpArgs false
def stOwn (x : S119) : Bool := decide (1 ≤ x.f0) && decide (x.f0 ≤ 5) && (if x.f0 = 3 then x.f1.toList.isEmpty else namedB x.f1) && (if x.f0 = 2 then exB x.f2 else noneB x.f2) && (if x.f0 ≤ 3 then exB x.f3 else noneB x.f3) && (if x.f0 = 4 then true else x.f4 == 0 && x.f5 == 0) && (if x.f0 = 3 ∨ x.f0 = 4 then true else x.f6.isEmpty) && (if x.f0 = 3 then true else x.f7.isEmpty)
mutual
def stB : S119 → Bool
  | ⟨a, b, c, d, e, f, g, h⟩ => stOwn ⟨a, b, c, d, e, f, g, h⟩ && bdB g && bdB h
def bdB : List S119 → Bool
  | [] => true
  | x :: r => stB x && bdB r
end
theorem bdB_all (l : List S119) : bdB l = l.all stB := by
  induction l with
  | nil => rfl
  | cons x r ih => rw [bdB, ih, List.all_cons]
theorem stB_eq (x : S119) : stB x = (stOwn x && bdB x.f6 && bdB x.f7) := by
  obtain ⟨a, b, c, d, e, f, g, h⟩ := x
  rw [stB]
theorem named_empty {s : ByteArray} (h : s.toList = []) : namedB s = false := by
  have h2 : s.size = 0 := by rw [Lib.toList_data, Array.toList_eq_nil_iff] at h; show s.data.size = 0; rw [h]; rfl
  unfold namedB nmB
  rw [h2]; rfl
def BodyC (f : FuncId) (l : List S119) : Prop := ∀ (A : Option Addr) (c : Nat) (w' : World), k119.C w' A l.length l → l.length ≤ c → Calls Tryz.prog f #[.slice A l.length c] w' fun e w'' => e = .returned (.bool (bdB l)) ∧ Below w'.heap.size w' w''
theorem wp_grown {P : Program} {c : Code} {Q : Exit → Act → World → Prop} {a : Act} {w : World} (h : ∀ g : G w, c.wp P Q a g.W) : c.wp P Q a w := h ⟨w, Below.refl _ _⟩
theorem named_v {s : ByteArray} {v : Bool} (h : namedB s = v) (w : World) : Calls Tryz.prog 119 #[.string s] w fun e w' => e = .returned (.bool v) ∧ Below w.heap.size w w' := h ▸ named_calls s w
theorem refName_v {s : ByteArray} {v : Bool} (h : namedB s = v) (w : World) : Calls Tryz.prog 124 #[.string s] w fun e w' => e = .returned (.bool v) ∧ Below w.heap.size w w' := h ▸ refName_calls s w
theorem none_v {x : S116} {v : Bool} (h : noneB x = v) (A : Option Addr) (c : Nat) (w : World) (hc : k116.C w A x.f3.length x.f3) (hl : x.f3.length ≤ c) : Calls Tryz.prog 241 #[.agg #[.int .i64 x.f0, .int .u64 x.f1, .string x.f2, .slice A x.f3.length c]] w fun e w' => e = .returned (.bool v) ∧ Below w.heap.size w w' := h ▸ none_calls x A c w hc hl
theorem refNone_v {x : S116} {v : Bool} (h : noneB x = v) (A : Option Addr) (c : Nat) (w : World) (hc : k116.C w A x.f3.length x.f3) (hl : x.f3.length ≤ c) : Calls Tryz.prog 244 #[.agg #[.int .i64 x.f0, .int .u64 x.f1, .string x.f2, .slice A x.f3.length c]] w fun e w' => e = .returned (.bool v) ∧ Below w.heap.size w w' := h ▸ refNone_calls x A c w hc hl
theorem exprForm_v {x : S116} {v : Bool} (h : exB x = v) (A : Option Addr) (c : Nat) (w : World) (hc : k116.C w A x.f3.length x.f3) (hl : x.f3.length ≤ c) : Calls Tryz.prog 240 #[.agg #[.int .i64 x.f0, .int .u64 x.f1, .string x.f2, .slice A x.f3.length c]] w fun e w' => e = .returned (.bool v) ∧ Below w.heap.size w w' := h ▸ exprForm_calls _ x (Nat.le_refl _) A c w hc hl
theorem refExprForm_v {x : S116} {v : Bool} (h : exB x = v) (A : Option Addr) (c : Nat) (w : World) (hc : k116.C w A x.f3.length x.f3) (hl : x.f3.length ≤ c) : Calls Tryz.prog 243 #[.agg #[.int .i64 x.f0, .int .u64 x.f1, .string x.f2, .slice A x.f3.length c]] w fun e w' => e = .returned (.bool v) ∧ Below w.heap.size w w' := h ▸ refExprForm_calls _ x (Nat.le_refl _) A c w hc hl
theorem body_v {f : FuncId} {l : List S119} (hb : BodyC f l) {v : Bool} (h : bdB l = v) (A : Option Addr) (c : Nat) (w' : World) (hc : k119.C w' A l.length l) (hl : l.length ≤ c) : Calls Tryz.prog f #[.slice A l.length c] w' fun e w'' => e = .returned (.bool v) ∧ Below w'.heap.size w' w'' := h ▸ hb A c w' hc hl
end Go.Proofs.YtfigjpehecibeaaGreat.L
end
section
namespace Go.Proofs.YtfigjpehecibeaaGreat.L
open Go.RowKit Go.Proofs.YtfigjpehecibeaaGreatW.PrintWords Go.Proofs.YtfigjpehecibeaaGreatW.PrintLast Go.Proofs.YtfigjpehecibeaaGreatW.PrintMore Go.Proofs.YtfigjpehecibeaaGreat.Gr
set_option linter.unusedVariables false
set_option linter.unusedSimpArgs false
attribute [local go_sem] G.cell
def StmtC (f : FuncId) (x : S119) : Prop := ∀ (A5 : Option Addr) (c5 : Nat) (A9 : Option Addr) (c9 : Nat) (A12 : Option Addr) (c12 : Nat) (A13 : Option Addr) (c13 : Nat) (w : World),
    x.f2.f3.length ≤ c5 → k116.C w A5 x.f2.f3.length x.f2.f3 → x.f3.f3.length ≤ c9 → k116.C w A9 x.f3.f3.length x.f3.f3 → x.f6.length ≤ c12 → k119.C w A12 x.f6.length x.f6 → x.f7.length ≤ c13 → k119.C w A13 x.f7.length x.f7 →
    Calls Tryz.prog f #[.agg #[.int .i64 x.f0, .string x.f1, .int .i64 x.f2.f0, .int .u64 x.f2.f1, .string x.f2.f2, .slice A5 x.f2.f3.length c5, .int .i64 x.f3.f0, .int .u64 x.f3.f1, .string x.f3.f2, .slice A9 x.f3.f3.length c9, .int .u64 x.f4, .int .u64 x.f5, .slice A12 x.f6.length c12, .slice A13 x.f7.length c13]] w fun e w' => e = .returned (.bool (stB x)) ∧ Below w.heap.size w w'
theorem st_all_has_no {l : List S119} {y : S119} (h : y ∈ l) (hn : stB y = false) : false = l.all stB := by
  symm
  rw [List.all_eq_false]
  exact ⟨y, h, by rw [hn]; decide⟩
theorem st_all_have {l : List S119} (h : ∀ j, j < l.length → stB (rd_T119 l (j : Int)) = true) : true = l.all stB := by
  symm
  rw [List.all_eq_true]
  intro y hy
  obtain ⟨j, hj, rfl⟩ := List.getElem_of_mem hy
  have := h j hj
  unfold rd_T119 at this
  rwa [Int.toNat_natCast, List.getD_eq_getElem?_getD, List.getElem?_eq_getElem hj] at this
theorem rd77_mem {l : List S119} {k : Nat} (hlt : k < l.length) : rd_T119 l (k : Int) ∈ l := by
  unfold rd_T119; rw [Int.toNat_natCast, List.getD_eq_getElem?_getD, List.getElem?_eq_getElem hlt]; exact List.getElem_mem _
theorem G.ball {w : World} (g : G w) (o : Obj) : Below w.heap.size w (g.W.alloc o) := g.below.alloc g.below.size o
theorem call_of_alloc {P : Program} {f : FuncId} {args : Array Value} {w : World} {g : G w} {o : Obj} {v : Value} (h : Calls P f args (g.W.alloc o) fun e w' => e = .returned v ∧ Below (g.W.alloc o).heap.size (g.W.alloc o) w') :
    Calls P f args (g.W.alloc o) fun e w'' => e = .returned v ∧ ∃ g' : G w, w'' = g'.W :=
  h.mono fun _ w' ⟨he, hb⟩ => ⟨he, ⟨⟨w', (G.ball g o).trans (hb.mono (G.ball g o).size)⟩, rfl⟩⟩
set_option maxHeartbeats 4000000 in
set_option maxRecDepth 100000 in
theorem bodyForm_walk (l : List S119) (A : Option Addr) (c : Nat) (w : World) (hc : k119.C w A l.length l) (hl : l.length ≤ c) (ih : ∀ x ∈ l, StmtC 168 x) :
    Calls Tryz.prog 121 #[.slice A l.length c] w fun e w' => e = .returned (.bool (l.all stB)) ∧ Below w.heap.size w w' := by
  have IH := Aside0.mk ih
  have HC := Aside0.mk hc
  have hlm := hc.2.1
  clear ih hc
  go_enter Tryz.func121, Tryz.ntmps121
  go_wp2
  go_loopw [7] (fun i W => ∃ (k : Nat) (g : G w), i = .int .i64 k ∧ W = g.W ∧ k ≤ l.length ∧ Aside0 (∀ j, j < k → stB (rd_T119 l (j : Int)) = true)) (fun i _ => l.length - (intOf i).toNat)
  case atStart => exact ⟨0, ⟨w, Below.refl _ _⟩, rfl, rfl, Nat.zero_le _, ⟨fun j hj => absurd hj (Nat.not_lt_zero _)⟩⟩
  case round =>
    obtain ⟨k, g, rfl, rfl, hk, HK⟩ := hrel
    by_cases hlt : k < l.length
    · obtain ⟨ad, A5, c5, A9, c9, A12, c12, A13, c13, e1, q0, q1, q2, q3, q4, q5, q6, q7, q8, q9, q10, q11, q12, q13, l5, g5, l9, g9, l12, g12, l13, g13⟩ := at_T119 HC.out (k : Int) (Int.natCast_nonneg _) (by omega)
      cases e1
      rw [Int.toNat_natCast] at q0 q1 q2 q3 q4 q5 q6 q7 q8 q9 q10 q11 q12 q13
      replace q0 := (g.below.cell (World.block_lt_of_cell? w _ q0)).trans q0
      replace q1 := (g.below.cell (World.block_lt_of_cell? w _ q1)).trans q1
      replace q2 := (g.below.cell (World.block_lt_of_cell? w _ q2)).trans q2
      replace q3 := (g.below.cell (World.block_lt_of_cell? w _ q3)).trans q3
      replace q4 := (g.below.cell (World.block_lt_of_cell? w _ q4)).trans q4
      replace q5 := (g.below.cell (World.block_lt_of_cell? w _ q5)).trans q5
      replace q6 := (g.below.cell (World.block_lt_of_cell? w _ q6)).trans q6
      replace q7 := (g.below.cell (World.block_lt_of_cell? w _ q7)).trans q7
      replace q8 := (g.below.cell (World.block_lt_of_cell? w _ q8)).trans q8
      replace q9 := (g.below.cell (World.block_lt_of_cell? w _ q9)).trans q9
      replace q10 := (g.below.cell (World.block_lt_of_cell? w _ q10)).trans q10
      replace q11 := (g.below.cell (World.block_lt_of_cell? w _ q11)).trans q11
      replace q12 := (g.below.cell (World.block_lt_of_cell? w _ q12)).trans q12
      replace q13 := (g.below.cell (World.block_lt_of_cell? w _ q13)).trans q13
      have hi1 : (k : Int) < (l.length : Int) := by omega
      have K := Aside0.mk (And.intro l5 (And.intro g5 (And.intro l9 (And.intro g9 (And.intro l12 (And.intro g12 (And.intro l13 g13)))))))
      clear l5 g5 l9 g9 l12 g12 l13 g13
      have MEM := Aside0.mk (rd77_mem hlt)
      rcases bcases (stB (rd_T119 l (k : Int))) with hy | hy
      all_goals
        have HY := Aside0.mk hy
        clear hy
        go_wp2_with fail
        refine (call_of_alloc (IH.out _ MEM.out A5 c5 A9 c9 A12 c12 A13 c13 _ K.out.1 (Kd.C_below K.out.2.1 (G.ball g _)) K.out.2.2.1 (Kd.C_below K.out.2.2.2.1 (G.ball g _)) K.out.2.2.2.2.1 (Kd.C_below K.out.2.2.2.2.2.1 (G.ball g _)) K.out.2.2.2.2.2.2.1 (Kd.C_below K.out.2.2.2.2.2.2.2 (G.ball g _)))).mono ?_
        rw [HY.out]
        rintro _ _ ⟨rfl, gg, rfl⟩
        go_wp2
      · refine ⟨⟨k + 1, gg, by go_num, rfl, by omega, ⟨fun j hj => ?_⟩⟩, by simp [intOf]; omega⟩
        by_cases hj2 : j = k
        · rw [hj2]; exact HY.out
        · exact HK.out j (by omega)
      · go_ret
        exact ⟨ret_bool2 (st_all_has_no MEM.out HY.out), gg.below⟩
    · go_wp2
      go_ret
      exact ⟨ret_bool2 (st_all_have (fun j hj => HK.out j (by omega))), g.below⟩
set_option maxHeartbeats 4000000 in
set_option maxRecDepth 100000 in
theorem stmtsForm_walk (l : List S119) (A : Option Addr) (c : Nat) (w : World) (hc : k119.C w A l.length l) (hl : l.length ≤ c) (ih : ∀ x ∈ l, StmtC 172 x) :
    Calls Tryz.prog 126 #[.slice A l.length c] w fun e w' => e = .returned (.bool (l.all stB)) ∧ Below w.heap.size w w' := by
  have IH := Aside0.mk ih
  have HC := Aside0.mk hc
  have hlm := hc.2.1
  clear ih hc
  go_enter Tryz.func126, Tryz.ntmps126
  go_wp2
  go_loopw [3] (fun i W => ∃ (k : Nat) (g : G w), i = .int .i64 k ∧ W = g.W ∧ k ≤ l.length ∧ Aside0 (∀ j, j < k → stB (rd_T119 l (j : Int)) = true)) (fun i _ => l.length - (intOf i).toNat)
  case atStart => exact ⟨0, ⟨w, Below.refl _ _⟩, rfl, rfl, Nat.zero_le _, ⟨fun j hj => absurd hj (Nat.not_lt_zero _)⟩⟩
  case round =>
    obtain ⟨k, g, rfl, rfl, hk, HK⟩ := hrel
    by_cases hlt : k < l.length
    · obtain ⟨ad, A5, c5, A9, c9, A12, c12, A13, c13, e1, q0, q1, q2, q3, q4, q5, q6, q7, q8, q9, q10, q11, q12, q13, l5, g5, l9, g9, l12, g12, l13, g13⟩ := at_T119 HC.out (k : Int) (Int.natCast_nonneg _) (by omega)
      cases e1
      rw [Int.toNat_natCast] at q0 q1 q2 q3 q4 q5 q6 q7 q8 q9 q10 q11 q12 q13
      replace q0 := (g.below.cell (World.block_lt_of_cell? w _ q0)).trans q0
      replace q1 := (g.below.cell (World.block_lt_of_cell? w _ q1)).trans q1
      replace q2 := (g.below.cell (World.block_lt_of_cell? w _ q2)).trans q2
      replace q3 := (g.below.cell (World.block_lt_of_cell? w _ q3)).trans q3
      replace q4 := (g.below.cell (World.block_lt_of_cell? w _ q4)).trans q4
      replace q5 := (g.below.cell (World.block_lt_of_cell? w _ q5)).trans q5
      replace q6 := (g.below.cell (World.block_lt_of_cell? w _ q6)).trans q6
      replace q7 := (g.below.cell (World.block_lt_of_cell? w _ q7)).trans q7
      replace q8 := (g.below.cell (World.block_lt_of_cell? w _ q8)).trans q8
      replace q9 := (g.below.cell (World.block_lt_of_cell? w _ q9)).trans q9
      replace q10 := (g.below.cell (World.block_lt_of_cell? w _ q10)).trans q10
      replace q11 := (g.below.cell (World.block_lt_of_cell? w _ q11)).trans q11
      replace q12 := (g.below.cell (World.block_lt_of_cell? w _ q12)).trans q12
      replace q13 := (g.below.cell (World.block_lt_of_cell? w _ q13)).trans q13
      have hi1 : (k : Int) < (l.length : Int) := by omega
      have K := Aside0.mk (And.intro l5 (And.intro g5 (And.intro l9 (And.intro g9 (And.intro l12 (And.intro g12 (And.intro l13 g13)))))))
      clear l5 g5 l9 g9 l12 g12 l13 g13
      have MEM := Aside0.mk (rd77_mem hlt)
      rcases bcases (stB (rd_T119 l (k : Int))) with hy | hy
      all_goals
        have HY := Aside0.mk hy
        clear hy
        go_wp2_with fail
        refine (call_of (IH.out _ MEM.out A5 c5 A9 c9 A12 c12 A13 c13 _ K.out.1 (Kd.C_below K.out.2.1 g.below) K.out.2.2.1 (Kd.C_below K.out.2.2.2.1 g.below) K.out.2.2.2.2.1 (Kd.C_below K.out.2.2.2.2.2.1 g.below) K.out.2.2.2.2.2.2.1 (Kd.C_below K.out.2.2.2.2.2.2.2 g.below))).mono ?_
        rw [HY.out]
        rintro _ _ ⟨rfl, gg, rfl⟩
        go_wp2
      · refine ⟨⟨k + 1, gg, by go_num, rfl, by omega, ⟨fun j hj => ?_⟩⟩, by simp [intOf]; omega⟩
        by_cases hj2 : j = k
        · rw [hj2]; exact HY.out
        · exact HK.out j (by omega)
      · go_ret
        exact ⟨ret_bool2 (st_all_has_no MEM.out HY.out), gg.below⟩
    · go_wp2
      go_ret
      exact ⟨ret_bool2 (st_all_have (fun j hj => HK.out j (by omega))), g.below⟩
end Go.Proofs.YtfigjpehecibeaaGreat.L
end
section
namespace Go.Proofs.YtfigjpehecibeaaGreat.L
open Go.RowKit Go.Proofs.YtfigjpehecibeaaGreatW.PrintWords Go.Proofs.YtfigjpehecibeaaGreatW.PrintLast Go.Proofs.YtfigjpehecibeaaGreatW.PrintMore Go.Proofs.YtfigjpehecibeaaGreat.Gr
set_option linter.unusedVariables false
set_option linter.unusedSimpArgs false
attribute [local go_sem] G.cell
set_option maxHeartbeats 2000000 in
set_option maxRecDepth 100000 in
theorem stmtForm_klt (a : Int) (h1 : a < 1) (b : ByteArray) (cc d : S116) (e f : Int) (g hh : List S119) {A5 : Option Addr} {c5 : Nat} {A9 : Option Addr} {c9 : Nat} {A12 : Option Addr} {c12 : Nat} {A13 : Option Addr} {c13 : Nat} (w : World)
    (L : Aside0 (cc.f3.length ≤ c5 ∧ d.f3.length ≤ c9 ∧ g.length ≤ c12 ∧ hh.length ≤ c13)) (H : Aside0 (k116.C w A5 cc.f3.length cc.f3 ∧ k116.C w A9 d.f3.length d.f3 ∧ k119.C w A12 g.length g ∧ k119.C w A13 hh.length hh))
    (IH : Aside0 (∀ l, l = g ∨ l = hh → BodyC 121 l)) :
    Calls Tryz.prog 168 #[.agg #[.int .i64 a, .string b, .int .i64 cc.f0, .int .u64 cc.f1, .string cc.f2, .slice A5 cc.f3.length c5, .int .i64 d.f0, .int .u64 d.f1, .string d.f2, .slice A9 d.f3.length c9, .int .u64 e, .int .u64 f, .slice A12 g.length c12, .slice A13 hh.length c13]] w fun e' w' => e' = .returned (.bool (stOwn ⟨a, b, cc, d, e, f, g, hh⟩ && bdB g && bdB hh)) ∧ Below w.heap.size w w' := by
  have gout : ∀ {o : Obj} (g : G (w.alloc o)), Below w.heap.size w g.W := fun g => ((Below.refl _ _).alloc (Nat.le_refl _) _).trans (g.below.mono (by simp))
  have h0 : stOwn ⟨a, b, cc, d, e, f, g, hh⟩ = false := by simp [stOwn]; omega
  rw [h0]
  have e2 : (a == 2) = false := by simp; omega
  have e3 : (a == 3) = false := by simp; omega
  have e4 : (a == 4) = false := by simp; omega
  clear h0
  go_enter Tryz.func168, Tryz.ntmps168
  go_upto_region 1 with (fail)
  refine wp_region_grown (by kernel_rfl) (by kernel_rfl) ?_
  repeat go_big_quiet_step (fail)
  refine wpQuiet_nil ?_
  rintro _ ⟨gg, rfl⟩
  go_wp2_with fail
  go_ret
  exact ⟨ret_bool2 (by simp), gout _⟩
end Go.Proofs.YtfigjpehecibeaaGreat.L
end
section
namespace Go.Proofs.YtfigjpehecibeaaGreat.L
open Go.RowKit Go.Proofs.YtfigjpehecibeaaGreatW.PrintWords Go.Proofs.YtfigjpehecibeaaGreatW.PrintLast Go.Proofs.YtfigjpehecibeaaGreatW.PrintMore Go.Proofs.YtfigjpehecibeaaGreat.Gr
set_option linter.unusedVariables false
set_option linter.unusedSimpArgs false
attribute [local go_sem] G.cell
set_option maxHeartbeats 1500000 in
set_option maxRecDepth 100000 in
theorem stmtForm_kgt (a : Int) (h1 : ¬ a < 1) (h2 : a > 5) (b : ByteArray) (cc d : S116) (e f : Int) (g hh : List S119) {A5 : Option Addr} {c5 : Nat} {A9 : Option Addr} {c9 : Nat} {A12 : Option Addr} {c12 : Nat} {A13 : Option Addr} {c13 : Nat} (w : World)
    (L : Aside0 (cc.f3.length ≤ c5 ∧ d.f3.length ≤ c9 ∧ g.length ≤ c12 ∧ hh.length ≤ c13)) (H : Aside0 (k116.C w A5 cc.f3.length cc.f3 ∧ k116.C w A9 d.f3.length d.f3 ∧ k119.C w A12 g.length g ∧ k119.C w A13 hh.length hh))
    (IH : Aside0 (∀ l, l = g ∨ l = hh → BodyC 121 l)) :
    Calls Tryz.prog 168 #[.agg #[.int .i64 a, .string b, .int .i64 cc.f0, .int .u64 cc.f1, .string cc.f2, .slice A5 cc.f3.length c5, .int .i64 d.f0, .int .u64 d.f1, .string d.f2, .slice A9 d.f3.length c9, .int .u64 e, .int .u64 f, .slice A12 g.length c12, .slice A13 hh.length c13]] w fun e' w' => e' = .returned (.bool (stOwn ⟨a, b, cc, d, e, f, g, hh⟩ && bdB g && bdB hh)) ∧ Below w.heap.size w w' := by
  have gout : ∀ {o : Obj} (g : G (w.alloc o)), Below w.heap.size w g.W := fun g => ((Below.refl _ _).alloc (Nat.le_refl _) _).trans (g.below.mono (by simp))
  have h0 : stOwn ⟨a, b, cc, d, e, f, g, hh⟩ = false := by simp [stOwn]; omega
  rw [h0]
  have e2 : (a == 2) = false := by simp; omega
  have e3 : (a == 3) = false := by simp; omega
  have e4 : (a == 4) = false := by simp; omega
  clear h0
  go_enter Tryz.func168, Tryz.ntmps168
  go_upto_region 1 with (fail)
  refine wp_region_grown (by kernel_rfl) (by kernel_rfl) ?_
  repeat go_big_quiet_step (fail)
  refine wpQuiet_nil ?_
  rintro _ ⟨gg, rfl⟩
  go_wp2_with fail
  go_ret
  exact ⟨ret_bool2 (by simp), gout _⟩
end Go.Proofs.YtfigjpehecibeaaGreat.L
end
section
namespace Go.Proofs.YtfigjpehecibeaaGreat.L
open Go.RowKit Go.Proofs.YtfigjpehecibeaaGreatW.PrintWords Go.Proofs.YtfigjpehecibeaaGreatW.PrintLast Go.Proofs.YtfigjpehecibeaaGreatW.PrintMore Go.Proofs.YtfigjpehecibeaaGreat.Gr
set_option linter.unusedVariables false
set_option linter.unusedSimpArgs false
attribute [local go_sem] G.cell
set_option maxHeartbeats 1500000 in
set_option maxRecDepth 100000 in
theorem stmtForm_k1 (b : ByteArray) (cc d : S116) (e f : Int) (g hh : List S119) {A5 : Option Addr} {c5 : Nat} {A9 : Option Addr} {c9 : Nat} {A12 : Option Addr} {c12 : Nat} {A13 : Option Addr} {c13 : Nat} (w : World)
    (L : Aside0 (cc.f3.length ≤ c5 ∧ d.f3.length ≤ c9 ∧ g.length ≤ c12 ∧ hh.length ≤ c13)) (H : Aside0 (k116.C w A5 cc.f3.length cc.f3 ∧ k116.C w A9 d.f3.length d.f3 ∧ k119.C w A12 g.length g ∧ k119.C w A13 hh.length hh))
    (IH : Aside0 (∀ l, l = g ∨ l = hh → BodyC 121 l)) :
    Calls Tryz.prog 168 #[.agg #[.int .i64 1, .string b, .int .i64 cc.f0, .int .u64 cc.f1, .string cc.f2, .slice A5 cc.f3.length c5, .int .i64 d.f0, .int .u64 d.f1, .string d.f2, .slice A9 d.f3.length c9, .int .u64 e, .int .u64 f, .slice A12 g.length c12, .slice A13 hh.length c13]] w fun e' w' => e' = .returned (.bool (stOwn ⟨1, b, cc, d, e, f, g, hh⟩ && bdB g && bdB hh)) ∧ Below w.heap.size w w' := by
  have gout : ∀ {o : Obj} (g : G (w.alloc o)), Below w.heap.size w g.W := fun g => ((Below.refl _ _).alloc (Nat.le_refl _) _).trans (g.below.mono (by simp))
  go_enter Tryz.func168, Tryz.ntmps168
  go_upto_region 1 with (fail)
  refine wp_region_grown (by kernel_rfl) (by kernel_rfl) ?_
  repeat go_big_quiet_step (fail)
  refine wpQuiet_nil ?_
  rintro _ ⟨gg, rfl⟩
  go_wp2_with fail
  rcases bcases (namedB b) with hh8 | hh8
  · refine (call_of (g := gg) (named_v hh8 gg.W)).mono ?_
    rintro _ _ ⟨rfl, gg, rfl⟩
    go_wp2_with fail
    rcases bcases (noneB cc) with hh7 | hh7
    · refine (call_of (g := gg) (none_v hh7 _ _ gg.W (Kd.C_below H.out.1 (gout gg)) L.out.1)).mono ?_
      rintro _ _ ⟨rfl, gg, rfl⟩
      go_wp2_with fail
      rcases bcases (exB d) with hh6 | hh6
      · refine (call_of (g := gg) (exprForm_v hh6 _ _ gg.W (Kd.C_below H.out.2.1 (gout gg)) L.out.2.1)).mono ?_
        rintro _ _ ⟨rfl, gg, rfl⟩
        rcases bcases (e != 0) with hh5 | hh5
        · have he5 : ¬ e = 0 := by simpa using hh5
          go_wp2_with fail
          go_ret
          exact ⟨ret_bool2 (by simp [stOwn, hh8, hh7, hh6, he5]), gout _⟩
        · have he5 : e = 0 := by simpa using hh5
          rcases bcases (f != 0) with hh4 | hh4
          · have he4 : ¬ f = 0 := by simpa using hh4
            go_wp2_with fail
            go_ret
            exact ⟨ret_bool2 (by simp [stOwn, hh8, hh7, hh6, he5, he4]), gout _⟩
          · have he4 : f = 0 := by simpa using hh4
            rcases Nat.eq_zero_or_pos g.length with hh3 | hh3
            · have he3 : g.isEmpty = true := by rw [List.eq_nil_of_length_eq_zero hh3]; rfl
              have hn3 : ¬ 0 < g.length := by omega
              have hm3 : decide (0 < g.length) = false := decide_eq_false hn3
              clear hh3
              rcases Nat.eq_zero_or_pos hh.length with hh2 | hh2
              · have he2 : hh.isEmpty = true := by rw [List.eq_nil_of_length_eq_zero hh2]; rfl
                have hn2 : ¬ 0 < hh.length := by omega
                have hm2 : decide (0 < hh.length) = false := decide_eq_false hn2
                clear hh2
                go_wp2_with fail
                rcases bcases (bdB g) with hh1 | hh1
                · refine (call_of (g := gg) (body_v (IH.out _ (Or.inl rfl)) hh1 _ _ gg.W (Kd.C_below H.out.2.2.1 (gout gg)) L.out.2.2.1)).mono ?_
                  rintro _ _ ⟨rfl, gg, rfl⟩
                  go_wp2_with fail
                  rcases bcases (bdB hh) with hh0 | hh0
                  · refine (call_of (g := gg) (body_v (IH.out _ (Or.inr rfl)) hh0 _ _ gg.W (Kd.C_below H.out.2.2.2 (gout gg)) L.out.2.2.2)).mono ?_
                    rintro _ _ ⟨rfl, gg, rfl⟩
                    go_wp2_with fail
                    go_ret
                    exact ⟨ret_bool2 (by simp [stOwn, hh8, hh7, hh6, he5, he4, he3, he2, hh1, hh0]), gout _⟩
                  · refine (call_of (g := gg) (body_v (IH.out _ (Or.inr rfl)) hh0 _ _ gg.W (Kd.C_below H.out.2.2.2 (gout gg)) L.out.2.2.2)).mono ?_
                    rintro _ _ ⟨rfl, gg, rfl⟩
                    go_wp2_with fail
                    go_ret
                    exact ⟨ret_bool2 (by simp [stOwn, hh8, hh7, hh6, he5, he4, he3, he2, hh1, hh0]), gout _⟩
                · refine (call_of (g := gg) (body_v (IH.out _ (Or.inl rfl)) hh1 _ _ gg.W (Kd.C_below H.out.2.2.1 (gout gg)) L.out.2.2.1)).mono ?_
                  rintro _ _ ⟨rfl, gg, rfl⟩
                  go_wp2_with fail
                  go_ret
                  exact ⟨ret_bool2 (by simp [stOwn, hh8, hh7, hh6, he5, he4, he3, he2, hh1]), gout _⟩
              · have he2 : hh.isEmpty = false := by rw [List.isEmpty_eq_false_iff]; rintro rfl; exact absurd hh2 (by simp)
                go_wp2_with fail
                go_ret
                exact ⟨ret_bool2 (by simp [stOwn, hh8, hh7, hh6, he5, he4, he3, he2]), gout _⟩
            · have he3 : g.isEmpty = false := by rw [List.isEmpty_eq_false_iff]; rintro rfl; exact absurd hh3 (by simp)
              go_wp2_with fail
              go_ret
              exact ⟨ret_bool2 (by simp [stOwn, hh8, hh7, hh6, he5, he4, he3]), gout _⟩
      · refine (call_of (g := gg) (exprForm_v hh6 _ _ gg.W (Kd.C_below H.out.2.1 (gout gg)) L.out.2.1)).mono ?_
        rintro _ _ ⟨rfl, gg, rfl⟩
        go_wp2_with fail
        go_ret
        exact ⟨ret_bool2 (by simp [stOwn, hh8, hh7, hh6]), gout _⟩
    · refine (call_of (g := gg) (none_v hh7 _ _ gg.W (Kd.C_below H.out.1 (gout gg)) L.out.1)).mono ?_
      rintro _ _ ⟨rfl, gg, rfl⟩
      go_wp2_with fail
      go_ret
      exact ⟨ret_bool2 (by simp [stOwn, hh8, hh7]), gout _⟩
  · refine (call_of (g := gg) (named_v hh8 gg.W)).mono ?_
    rintro _ _ ⟨rfl, gg, rfl⟩
    go_wp2_with fail
    go_ret
    exact ⟨ret_bool2 (by simp [stOwn, hh8]), gout _⟩
end Go.Proofs.YtfigjpehecibeaaGreat.L
end
section
namespace Go.Proofs.YtfigjpehecibeaaGreat.L
open Go.RowKit Go.Proofs.YtfigjpehecibeaaGreatW.PrintWords Go.Proofs.YtfigjpehecibeaaGreatW.PrintLast Go.Proofs.YtfigjpehecibeaaGreatW.PrintMore Go.Proofs.YtfigjpehecibeaaGreat.Gr
set_option linter.unusedVariables false
set_option linter.unusedSimpArgs false
attribute [local go_sem] G.cell
set_option maxHeartbeats 1500000 in
set_option maxRecDepth 100000 in
theorem stmtForm_k2 (b : ByteArray) (cc d : S116) (e f : Int) (g hh : List S119) {A5 : Option Addr} {c5 : Nat} {A9 : Option Addr} {c9 : Nat} {A12 : Option Addr} {c12 : Nat} {A13 : Option Addr} {c13 : Nat} (w : World)
    (L : Aside0 (cc.f3.length ≤ c5 ∧ d.f3.length ≤ c9 ∧ g.length ≤ c12 ∧ hh.length ≤ c13)) (H : Aside0 (k116.C w A5 cc.f3.length cc.f3 ∧ k116.C w A9 d.f3.length d.f3 ∧ k119.C w A12 g.length g ∧ k119.C w A13 hh.length hh))
    (IH : Aside0 (∀ l, l = g ∨ l = hh → BodyC 121 l)) :
    Calls Tryz.prog 168 #[.agg #[.int .i64 2, .string b, .int .i64 cc.f0, .int .u64 cc.f1, .string cc.f2, .slice A5 cc.f3.length c5, .int .i64 d.f0, .int .u64 d.f1, .string d.f2, .slice A9 d.f3.length c9, .int .u64 e, .int .u64 f, .slice A12 g.length c12, .slice A13 hh.length c13]] w fun e' w' => e' = .returned (.bool (stOwn ⟨2, b, cc, d, e, f, g, hh⟩ && bdB g && bdB hh)) ∧ Below w.heap.size w w' := by
  have gout : ∀ {o : Obj} (g : G (w.alloc o)), Below w.heap.size w g.W := fun g => ((Below.refl _ _).alloc (Nat.le_refl _) _).trans (g.below.mono (by simp))
  go_enter Tryz.func168, Tryz.ntmps168
  go_upto_region 1 with (fail)
  refine wp_region_grown (by kernel_rfl) (by kernel_rfl) ?_
  repeat go_big_quiet_step (fail)
  refine wpQuiet_nil ?_
  rintro _ ⟨gg, rfl⟩
  go_wp2_with fail
  rcases bcases (namedB b) with hh8 | hh8
  · refine (call_of (g := gg) (named_v hh8 gg.W)).mono ?_
    rintro _ _ ⟨rfl, gg, rfl⟩
    go_wp2_with fail
    rcases bcases (exB cc) with hh7 | hh7
    · refine (call_of (g := gg) (exprForm_v hh7 _ _ gg.W (Kd.C_below H.out.1 (gout gg)) L.out.1)).mono ?_
      rintro _ _ ⟨rfl, gg, rfl⟩
      go_wp2_with fail
      rcases bcases (exB d) with hh6 | hh6
      · refine (call_of (g := gg) (exprForm_v hh6 _ _ gg.W (Kd.C_below H.out.2.1 (gout gg)) L.out.2.1)).mono ?_
        rintro _ _ ⟨rfl, gg, rfl⟩
        rcases bcases (e != 0) with hh5 | hh5
        · have he5 : ¬ e = 0 := by simpa using hh5
          go_wp2_with fail
          go_ret
          exact ⟨ret_bool2 (by simp [stOwn, hh8, hh7, hh6, he5]), gout _⟩
        · have he5 : e = 0 := by simpa using hh5
          rcases bcases (f != 0) with hh4 | hh4
          · have he4 : ¬ f = 0 := by simpa using hh4
            go_wp2_with fail
            go_ret
            exact ⟨ret_bool2 (by simp [stOwn, hh8, hh7, hh6, he5, he4]), gout _⟩
          · have he4 : f = 0 := by simpa using hh4
            rcases Nat.eq_zero_or_pos g.length with hh3 | hh3
            · have he3 : g.isEmpty = true := by rw [List.eq_nil_of_length_eq_zero hh3]; rfl
              have hn3 : ¬ 0 < g.length := by omega
              have hm3 : decide (0 < g.length) = false := decide_eq_false hn3
              clear hh3
              rcases Nat.eq_zero_or_pos hh.length with hh2 | hh2
              · have he2 : hh.isEmpty = true := by rw [List.eq_nil_of_length_eq_zero hh2]; rfl
                have hn2 : ¬ 0 < hh.length := by omega
                have hm2 : decide (0 < hh.length) = false := decide_eq_false hn2
                clear hh2
                go_wp2_with fail
                rcases bcases (bdB g) with hh1 | hh1
                · refine (call_of (g := gg) (body_v (IH.out _ (Or.inl rfl)) hh1 _ _ gg.W (Kd.C_below H.out.2.2.1 (gout gg)) L.out.2.2.1)).mono ?_
                  rintro _ _ ⟨rfl, gg, rfl⟩
                  go_wp2_with fail
                  rcases bcases (bdB hh) with hh0 | hh0
                  · refine (call_of (g := gg) (body_v (IH.out _ (Or.inr rfl)) hh0 _ _ gg.W (Kd.C_below H.out.2.2.2 (gout gg)) L.out.2.2.2)).mono ?_
                    rintro _ _ ⟨rfl, gg, rfl⟩
                    go_wp2_with fail
                    go_ret
                    exact ⟨ret_bool2 (by simp [stOwn, hh8, hh7, hh6, he5, he4, he3, he2, hh1, hh0]), gout _⟩
                  · refine (call_of (g := gg) (body_v (IH.out _ (Or.inr rfl)) hh0 _ _ gg.W (Kd.C_below H.out.2.2.2 (gout gg)) L.out.2.2.2)).mono ?_
                    rintro _ _ ⟨rfl, gg, rfl⟩
                    go_wp2_with fail
                    go_ret
                    exact ⟨ret_bool2 (by simp [stOwn, hh8, hh7, hh6, he5, he4, he3, he2, hh1, hh0]), gout _⟩
                · refine (call_of (g := gg) (body_v (IH.out _ (Or.inl rfl)) hh1 _ _ gg.W (Kd.C_below H.out.2.2.1 (gout gg)) L.out.2.2.1)).mono ?_
                  rintro _ _ ⟨rfl, gg, rfl⟩
                  go_wp2_with fail
                  go_ret
                  exact ⟨ret_bool2 (by simp [stOwn, hh8, hh7, hh6, he5, he4, he3, he2, hh1]), gout _⟩
              · have he2 : hh.isEmpty = false := by rw [List.isEmpty_eq_false_iff]; rintro rfl; exact absurd hh2 (by simp)
                go_wp2_with fail
                go_ret
                exact ⟨ret_bool2 (by simp [stOwn, hh8, hh7, hh6, he5, he4, he3, he2]), gout _⟩
            · have he3 : g.isEmpty = false := by rw [List.isEmpty_eq_false_iff]; rintro rfl; exact absurd hh3 (by simp)
              go_wp2_with fail
              go_ret
              exact ⟨ret_bool2 (by simp [stOwn, hh8, hh7, hh6, he5, he4, he3]), gout _⟩
      · refine (call_of (g := gg) (exprForm_v hh6 _ _ gg.W (Kd.C_below H.out.2.1 (gout gg)) L.out.2.1)).mono ?_
        rintro _ _ ⟨rfl, gg, rfl⟩
        go_wp2_with fail
        go_ret
        exact ⟨ret_bool2 (by simp [stOwn, hh8, hh7, hh6]), gout _⟩
    · refine (call_of (g := gg) (exprForm_v hh7 _ _ gg.W (Kd.C_below H.out.1 (gout gg)) L.out.1)).mono ?_
      rintro _ _ ⟨rfl, gg, rfl⟩
      go_wp2_with fail
      go_ret
      exact ⟨ret_bool2 (by simp [stOwn, hh8, hh7]), gout _⟩
  · refine (call_of (g := gg) (named_v hh8 gg.W)).mono ?_
    rintro _ _ ⟨rfl, gg, rfl⟩
    go_wp2_with fail
    go_ret
    exact ⟨ret_bool2 (by simp [stOwn, hh8]), gout _⟩
end Go.Proofs.YtfigjpehecibeaaGreat.L
end
