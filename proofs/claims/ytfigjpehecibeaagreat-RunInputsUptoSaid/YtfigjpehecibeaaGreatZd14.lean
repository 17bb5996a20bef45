/- Texts joined by a program of mine: Vb Vc Vd. -/
import Derived.Test.YtfigjpehecibeaaGreatZd13
section
namespace Go.Proofs.YtfigjpehecibeaaGreat.L
open Go.RowKit Go.Proofs.YtfigjpehecibeaaGreatW.PrintWords Go.Proofs.YtfigjpehecibeaaGreatW.PrintLast Go.Proofs.YtfigjpehecibeaaGreatW.PrintMore Go.Proofs.YtfigjpehecibeaaGreat.Gr
set_option linter.unusedVariables false
set_option linter.unusedSimpArgs false
attribute [local go_sem] G.cell
def outL (f : Th → Bool) : Nat → List Th → Ending
  | _, [] => .returned (.tuple #[])
  | n, t :: r => if f t = true then .panicked (foundV n) else outL f (n + 1) r
theorem outL_ret {f : Th → Bool} : ∀ {n : Nat} {l : List Th}, l.any f = false → outL f n l = .returned (.tuple #[])
  | _, [], _ => rfl
  | n, t :: r, h => by
    rw [List.any_cons, Bool.or_eq_false_iff] at h
    rw [outL, if_neg (by simp [h.1]), outL_ret h.2]
theorem outL_bad {f : Th → Bool} : ∀ {n : Nat} {l : List Th}, l.any f = true → ∃ m, outL f n l = .panicked (foundV m)
  | _, [], h => by simp at h
  | n, t :: r, h => by
    rw [outL]
    by_cases ht : f t = true
    · rw [if_pos ht]; exact ⟨n, rfl⟩
    · rw [if_neg ht]
      rw [List.any_cons] at h
      exact outL_bad (by simpa [ht] using h)
theorem outL_add {f : Th → Bool} : ∀ {n : Nat} {a r : List Th}, a.any f = false → outL f n (a ++ r) = outL f (n + a.length) r
  | _, [], _, _ => rfl
  | n, t :: s, r, h => by
    rw [List.any_cons, Bool.or_eq_false_iff] at h
    rw [List.cons_append, outL, if_neg (by simp [h.1]), outL_add h.2, List.length_cons]
    congr 1
    omega
theorem outL_head {f : Th → Bool} : ∀ {n : Nat} {m r : List Th}, m.any f = true → outL f n (m ++ r) = outL f n m
  | _, [], _, h => by simp at h
  | n, t :: s, r, h => by
    rw [List.cons_append, outL, outL]
    by_cases ht : f t = true
    · rw [if_pos ht, if_pos ht]
    · rw [if_neg ht, if_neg ht]
      rw [List.any_cons] at h
      exact outL_head (by simpa [ht] using h)
theorem ScopeR.ptr {W : World} {v : Value} {lo : List ByteArray} (h : ScopeR W v lo) : ∃ q, v = .pointer q := by
  cases lo with
  | nil => exact ⟨none, h⟩
  | cons nm r => obtain ⟨b, nx, hv, _⟩ := h; exact ⟨_, hv⟩
theorem addr_eta {w : World} {a : Addr} {v : Value} (h : w.cell? a = some v) : a = ⟨a.block, a.off, none⟩ := by
  obtain ⟨b, o, s⟩ := a
  cases s with
  | none => rfl
  | some s =>
    unfold World.cell? at h
    simp at h
    split at h <;> simp at h
theorem ex_kid {Wb : World} {A : Option Addr} {n : Nat} {l : List S116} (h : k116.C Wb A n l) {k : Nat} (hk : k < n) : ∃ ad, A = some ad ∧ ExAt Wb (.pointer (some (ad.add (k * 4)))) (rd_T116 l (k : Int)) := by
  obtain ⟨ad, A3, c3, e, q0, q1, q2, q3, l3, g3⟩ := at_T116 h (k : Int) (Int.natCast_nonneg _) (by omega)
  rw [Int.toNat_natCast] at q0 q1 q2 q3
  have he := addr_eta q0
  refine ⟨ad, e, ad.add (k * 4), A3, c3, by rw [← he], ?_, l3, g3⟩
  intro j v hj
  match j, hj with
  | 0, hj => simp at hj; subst hj; rw [Nat.add_zero, ← he]; exact q0
  | 1, hj => simp at hj; subst hj; exact q1
  | 2, hj => simp at hj; subst hj; rw [← q2]
  | 3, hj => simp at hj; subst hj; rw [← q3]
  | j + 4, hj => simp at hj
theorem exThs_app (a b : List S116) (lo : List ByteArray) : exThs (a ++ b) lo = exThs a lo ++ exThs b lo := by
  induction a with
  | nil => simp [exThs]
  | cons x r ih => rw [List.cons_append, exThs, ih, exThs, List.append_assoc]
theorem exThs_split (l : List S116) (k : Nat) (hk : k < l.length) (lo : List ByteArray) : exThs l lo = exThs (l.take k) lo ++ (exTh (rd_T116 l (k : Int)) lo ++ exThs (l.drop (k + 1)) lo) := by
  have h := exThs_app (l.take (k + 1)) (l.drop (k + 1)) lo
  rw [List.take_append_drop, take_rd116 hk, exThs_add, List.append_assoc] at h
  exact h
def WExpr (Wb : World) (bw b : Nat) (R : Th → Prop) (f : Th → Bool) (e : S116) : Prop := ∀ (W : World) (n : Nat) (p lp : Value) (lo : List ByteArray), (∀ t ∈ exTh e lo, R t) → Below Wb.heap.size Wb W → W.heap[b]? = some (.cells #[.int .i64 n, seeV bw] 183 (0, 0)) → ExAt Wb p e → ScopeR W lp lo.reverse → n + weightE e < 4611686018427387904 →
  Calls Tryz.prog 169 #[.pointer (some ⟨b, 0, none⟩), p, lp] W fun r W' => r = outL f n (exTh e lo) ∧ ((exTh e lo).any f = false → W'.heap[b]? = some (.cells #[.int .i64 ((n + weightE e : Nat) : Int), seeV bw] 183 (0, 0))) ∧ Gw Wb W W' b
set_option maxHeartbeats 1500000 in
set_option maxRecDepth 100000 in
theorem wexpr_walk {Wb : World} {bw b : Nat} {R : Th → Prop} {f : Th → Bool} (hs : SeeOK Wb bw R f) (hbb : Wb.heap.size ≤ b) (e : S116) (ih : ∀ y ∈ e.f3, WExpr Wb bw b R f y) : WExpr Wb bw b R f e := by
  intro W n p lp lo hRR hB hw hx hsc hn
  have HX := Aside0.mk hx
  obtain ⟨lq, rfl⟩ := hsc.ptr
  obtain ⟨a, A, c, rfl, hr, hl, hC⟩ := hx
  have HS := Aside0.mk hs
  have HRR := Aside0.mk hRR
  clear hRR
  have HW := Aside0.mk hw
  have HB := Aside0.mk hB
  have HBB := Aside0.mk hbb
  have HSC := Aside0.mk hsc
  have HN := Aside0.mk hn
  have IH := Aside0.mk ih
  have HRG := Aside0.mk hr
  have HC := Aside0.mk hC
  have hlm := hC.2.1
  clear hs hw hB hbb hsc hn ih hr hC
  go_enter Tryz.func169, Tryz.ntmps169
  go_wp2_with fail
  refine (tell_calls HS.out HBB.out W n (by have := HN.out; omega) (.pointer none) (.pointer none) (.pointer (some ⟨a.block, a.off, none⟩)) 0 0 (.pointer lq) (.expr e lo) (HRR.out _ (by rw [exTh_eq]; exact List.mem_cons_self)) HB.out HW.out ⟨rfl, rfl, HX.out, rfl, HSC.out⟩).mono ?_
  rintro _ W1 ⟨rfl, hw1, hg1⟩
  rcases bcases (f (.expr e lo)) with hf | hf
  · rw [hf]
    refine ⟨rfl, ?_, ?_, hg1⟩
    · rw [exTh_eq, outL, if_pos hf]
    · intro h
      rw [exTh_eq, List.any_cons, hf] at h
      cases h
  rw [hf]
  have HF := Aside0.mk hf
  have HR1 := Aside0.mk (And.intro hw1 hg1)
  have z3 : W1.cell? ⟨a.block, a.off + 3, none⟩ = some (.slice A e.f3.length c) := held_in hg1.below (HRG.out 3 _ rfl)
  clear hw1 hg1 hf
  rw [show outE false n = .returned (.tuple #[]) from rfl]
  go_wp2_with fail
  go_loopw [17] (fun i W => ∃ (k : Nat) (W2 : World), i = .int .i64 k ∧ W2 = W ∧ k ≤ e.f3.length ∧ Aside0 (W2.heap[b]? = some (.cells #[.int .i64 ((n + 1 + weightL (e.f3.take k) : Nat) : Int), seeV bw] 183 (0, 0)) ∧ Gw Wb W1 W2 b ∧ (exThs (e.f3.take k) lo).any f = false)) (fun i _ => e.f3.length - (intOf i).toNat)
  case atStart => exact ⟨0, _, rfl, rfl, Nat.zero_le _, ⟨by simpa [weightL] using HR1.out.1, ⟨HR1.out.2.below, ⟨rfl, rfl, rfl, Nat.le_refl _, fun _ _ _ => rfl⟩⟩, by simp [exThs]⟩⟩
  case round =>
    obtain ⟨k, W2, rfl, rfl, hk, HK⟩ := hrel
    by_cases hlt : k < e.f3.length
    · obtain ⟨ad, e1, hkid⟩ := ex_kid HC.out hlt
      cases e1
      have HKID := Aside0.mk hkid
      clear hkid
      have hk1 : (k : Int) < (e.f3.length : Int) := by omega
      have z3 : W2.cell? ⟨a.block, a.off + 3, none⟩ = some (.slice (some ad) e.f3.length c) := held_in HK.out.2.1.below (HRG.out 3 _ rfl)
      have MEM := Aside0.mk (rd75_mem hlt)
      have T := Aside0.mk (And.intro (congrArg weightL (take_rd116 hlt)) (congrArg (fun l => exThs l lo) (take_rd116 hlt)))
      have SP := Aside0.mk (exThs_split e.f3 k hlt lo)
      have WT := Aside0.mk (weightL_take e.f3 (k + 1))
      obtain ⟨y, hy⟩ : ∃ y, y = rd_T116 e.f3 (k : Int) := ⟨_, rfl⟩
      rw [← hy] at HKID MEM T SP
      clear hy
      have HNY : n + 1 + weightL (e.f3.take k) + weightE y < 4611686018427387904 := by
        have h1 := HN.out
        have h2 := T.out.1
        have h3 := WT.out
        rw [weightL_add] at h2
        rw [weightE_eq] at h1
        omega
      have HNY := Aside0.mk HNY
      go_wp2_with fail
      refine (IH.out _ MEM.out W2 (n + 1 + weightL (e.f3.take k)) (.pointer (some (ad.add (k * 4)))) (.pointer lq) lo (fun t ht => HRR.out t (by rw [exTh_eq, SP.out]; simp [ht])) HK.out.2.1.below HK.out.1 HKID.out (((HSC.out.step HW.out HR1.out.2.grown)).step HR1.out.1 HK.out.2.1.grown) HNY.out).mono ?_
      rintro _ W3 ⟨rfl, hw3, hg3⟩
      rcases bcases ((exTh y lo).any f) with ha | ha
      · obtain ⟨m, hm⟩ := outL_bad (n := n + 1 + weightL (e.f3.take k)) ha
        rw [hm]
        refine ⟨rfl, ?_, ?_, HR1.out.2.trans (HK.out.2.1.trans hg3)⟩
        · rw [exTh_eq, outL, if_neg (by simp [HF.out]), SP.out, outL_add HK.out.2.2, outL_head ha, exThs_len, ← hm]
        · intro h
          rw [exTh_eq, SP.out] at h
          simp [ha] at h
      · rw [outL_ret ha]
        have HA := Aside0.mk ha
        have HR3 := Aside0.mk (And.intro (hw3 ha) hg3)
        clear ha hw3 hg3
        go_wp2_with fail
        refine ⟨⟨k + 1, W3, by go_num, rfl, by omega, ⟨?_, HK.out.2.1.trans HR3.out.2, ?_⟩⟩, by simp [intOf]; omega⟩
        · have h1 := HR3.out.1
          have h2 := T.out.1
          rw [weightL_add] at h2
          rw [h2, ← Nat.add_assoc]
          exact h1
        · have h2 := T.out.2
          simp only [exThs_add] at h2
          rw [h2, List.any_append, HK.out.2.2, HA.out]
          rfl
    · go_wp2_with fail
      first | go_end0 | skip
      have hke : k = e.f3.length := by omega
      have h1 := HK.out
      rw [hke, List.take_length] at h1
      have ha : (exTh e lo).any f = false := by rw [exTh_eq, List.any_cons, HF.out, h1.2.2]; rfl
      refine ⟨(outL_ret ha).symm, fun _ => ?_, HR1.out.2.trans h1.2.1⟩
      rw [weightE_eq, ← Nat.add_assoc]
      exact h1.1
theorem wexpr_calls {Wb : World} {bw b : Nat} {R : Th → Prop} {f : Th → Bool} (hs : SeeOK Wb bw R f) (hbb : Wb.heap.size ≤ b) : ∀ (n : Nat) (e : S116), SizeOf.sizeOf e ≤ n → WExpr Wb bw b R f e := by
  intro n
  induction n with
  | zero => intro e h; obtain ⟨a, b, s, l⟩ := e; simp at h
  | succ n ih => exact fun e h => wexpr_walk hs hbb e fun y hy => ih y (rd75_size rfl hy h)
end Go.Proofs.YtfigjpehecibeaaGreat.L
end
section
namespace Go.Proofs.YtfigjpehecibeaaGreat.L
open Go.RowKit Go.Proofs.YtfigjpehecibeaaGreatW.PrintWords Go.Proofs.YtfigjpehecibeaaGreatW.PrintLast Go.Proofs.YtfigjpehecibeaaGreatW.PrintMore Go.Proofs.YtfigjpehecibeaaGreat.Gr
set_option linter.unusedVariables false
set_option linter.unusedSimpArgs false
attribute [local go_sem] G.cell
theorem st_kid {Wb : World} {A : Option Addr} {n : Nat} {l : List S119} (h : k119.C Wb A n l) {k : Nat} (hk : k < n) : ∃ ad bb oo A5 c5 A9 c9 A12 c12 A13 c13, A = some ad ∧ ad.add (k * 14) = ⟨bb, oo, none⟩ ∧
    Wb.rangeAt bb oo [.int .i64 (rd_T119 l (k : Int)).f0, .string (rd_T119 l (k : Int)).f1, .int .i64 (rd_T119 l (k : Int)).f2.f0, .int .u64 (rd_T119 l (k : Int)).f2.f1, .string (rd_T119 l (k : Int)).f2.f2, .slice A5 (rd_T119 l (k : Int)).f2.f3.length c5, .int .i64 (rd_T119 l (k : Int)).f3.f0, .int .u64 (rd_T119 l (k : Int)).f3.f1, .string (rd_T119 l (k : Int)).f3.f2, .slice A9 (rd_T119 l (k : Int)).f3.f3.length c9, .int .u64 (rd_T119 l (k : Int)).f4, .int .u64 (rd_T119 l (k : Int)).f5, .slice A12 (rd_T119 l (k : Int)).f6.length c12, .slice A13 (rd_T119 l (k : Int)).f7.length c13] ∧
    (rd_T119 l (k : Int)).f2.f3.length ≤ c5 ∧ k116.C Wb A5 (rd_T119 l (k : Int)).f2.f3.length (rd_T119 l (k : Int)).f2.f3 ∧ (rd_T119 l (k : Int)).f3.f3.length ≤ c9 ∧ k116.C Wb A9 (rd_T119 l (k : Int)).f3.f3.length (rd_T119 l (k : Int)).f3.f3 ∧
    (rd_T119 l (k : Int)).f6.length ≤ c12 ∧ k119.C Wb A12 (rd_T119 l (k : Int)).f6.length (rd_T119 l (k : Int)).f6 ∧ (rd_T119 l (k : Int)).f7.length ≤ c13 ∧ k119.C Wb A13 (rd_T119 l (k : Int)).f7.length (rd_T119 l (k : Int)).f7 := by
  obtain ⟨ad, A5, c5, A9, c9, A12, c12, A13, c13, e, q0, q1, q2, q3, q4, q5, q6, q7, q8, q9, q10, q11, q12, q13, l5, g5, l9, g9, l12, g12, l13, g13⟩ := at_T119 h (k : Int) (Int.natCast_nonneg _) (by omega)
  rw [Int.toNat_natCast] at q0 q1 q2 q3 q4 q5 q6 q7 q8 q9 q10 q11 q12 q13
  have he := addr_eta q0
  refine ⟨ad, (ad.add (k * 14)).block, (ad.add (k * 14)).off, A5, c5, A9, c9, A12, c12, A13, c13, e, he, ?_, l5, g5, l9, g9, l12, g12, l13, g13⟩
  intro j v hj
  match j, hj with
  | 0, hj => simp at hj; subst hj; rw [Nat.add_zero, ← he]; exact q0
  | 1, hj => simp at hj; subst hj; exact q1
  | 2, hj => simp at hj; subst hj; exact q2
  | 3, hj => simp at hj; subst hj; exact q3
  | 4, hj => simp at hj; subst hj; exact q4
  | 5, hj => simp at hj; subst hj; exact q5
  | 6, hj => simp at hj; subst hj; exact q6
  | 7, hj => simp at hj; subst hj; exact q7
  | 8, hj => simp at hj; subst hj; exact q8
  | 9, hj => simp at hj; subst hj; exact q9
  | 10, hj => simp at hj; subst hj; exact q10
  | 11, hj => simp at hj; subst hj; exact q11
  | 12, hj => simp at hj; subst hj; exact q12
  | 13, hj => simp at hj; subst hj; exact q13
  | j + 14, hj => simp at hj
theorem range_sub {w : World} {b o : Nat} {cs ds : List Value} (k : Nat) (h : w.rangeAt b o cs) (hd : ∀ (j : Nat) (v : Value), ds[j]? = some v → cs[k + j]? = some v) : w.rangeAt b (o + k) ds := fun j v hj => by
  rw [Nat.add_assoc]
  exact h (k + j) v (hd j v hj)
theorem stThs_app (a b : List S119) (d : Nat) (lo : List ByteArray) : stThs (a ++ b) d lo = stThs a d lo ++ stThs b d lo := by
  induction a with
  | nil => simp [stThs]
  | cons x r ih => rw [List.cons_append, stThs, ih, stThs, List.append_assoc]
theorem stThs_split (l : List S119) (k : Nat) (hk : k < l.length) (d : Nat) (lo : List ByteArray) : stThs l d lo = stThs (l.take k) d lo ++ (stTh (rd_T119 l (k : Int)) d lo ++ stThs (l.drop (k + 1)) d lo) := by
  have h := stThs_app (l.take (k + 1)) (l.drop (k + 1)) d lo
  rw [List.take_append_drop, take_rd119 hk, stThs_add, List.append_assoc] at h
  exact h
theorem st_form {x : S119} (h : stB x = true) : 1 ≤ x.f0 ∧ x.f0 ≤ 5 ∧ (x.f0 = 1 ∨ x.f0 = 2 ∨ x.f0 = 5 → x.f6 = [] ∧ x.f7 = []) ∧ (x.f0 = 4 → x.f7 = []) ∧ bdB x.f6 = true ∧ bdB x.f7 = true := by
  rw [stB_eq] at h
  simp only [Bool.and_eq_true] at h
  obtain ⟨⟨h0, h6⟩, h7⟩ := h
  unfold stOwn at h0
  simp only [Bool.and_eq_true, decide_eq_true_eq] at h0
  obtain ⟨⟨⟨⟨⟨⟨⟨h1, h2⟩, _⟩, _⟩, _⟩, _⟩, h8⟩, h9⟩ := h0
  refine ⟨h1, h2, fun hk => ⟨?_, ?_⟩, fun hk => ?_, h6, h7⟩
  · rw [if_neg (by omega)] at h8; exact List.isEmpty_iff.1 h8
  · rw [if_neg (by omega)] at h9; exact List.isEmpty_iff.1 h9
  · rw [if_neg (by omega)] at h9; exact List.isEmpty_iff.1 h9
theorem bd_mem {l : List S119} (h : bdB l = true) {x : S119} (hx : x ∈ l) : stB x = true := by
  rw [bdB_all, List.all_eq_true] at h
  exact h x hx
def WStmts (Wb : World) (bw b : Nat) (R : Th → Prop) (f : Th → Bool) (l : List S119) : Prop := ∀ (W : World) (n : Nat) (lp : Value) (lo : List ByteArray) (A : Option Addr) (c d : Nat) (dI : Int), (∀ t ∈ stThs l d lo, R t) → dI = (d : Int) → bdB l = true → Below Wb.heap.size Wb W → W.heap[b]? = some (.cells #[.int .i64 n, seeV bw] 183 (0, 0)) → k119.C Wb A l.length l → l.length ≤ c → ScopeR W lp lo.reverse → n + (stThs l d lo).length < 4611686018427387904 → d + Ot.bulkTs l < 4611686018427387904 →
  Calls Tryz.prog 123 #[.pointer (some ⟨b, 0, none⟩), .slice A l.length c, .int .i64 dI, lp] W fun r W' => r = outL f n (stThs l d lo) ∧ ((stThs l d lo).any f = false → W'.heap[b]? = some (.cells #[.int .i64 ((n + (stThs l d lo).length : Nat) : Int), seeV bw] 183 (0, 0))) ∧ Gw Wb W W' b
set_option maxHeartbeats 4000000 in
set_option maxRecDepth 100000 in
theorem wstmts_walk {Wb : World} {bw b : Nat} {R : Th → Prop} {f : Th → Bool} (hs : SeeOK Wb bw R f) (hbb : Wb.heap.size ≤ b) (l : List S119) (ih : ∀ x ∈ l, WStmts Wb bw b R f x.f6 ∧ WStmts Wb bw b R f x.f7) : WStmts Wb bw b R f l := by
  intro W n lp lo A c d dI hRR hdI hform hB hw hC hl hsc hn hd
  obtain ⟨lq, rfl⟩ := hsc.ptr
  subst hdI
  have HS := Aside0.mk hs
  have HRR := Aside0.mk hRR
  clear hRR
  have HW := Aside0.mk hw
  have HB := Aside0.mk hB
  have HBB := Aside0.mk hbb
  have HSC := Aside0.mk hsc
  have HN := Aside0.mk (And.intro hn hd)
  have IH := Aside0.mk ih
  have HF := Aside0.mk hform
  have HC := Aside0.mk hC
  have hlm := hC.2.1
  clear hs hw hB hbb hsc hn hd ih hform hC
  go_enter Tryz.func123, Tryz.ntmps123
  go_wp2_with fail
  go_loopw [12] (fun i W3 => ∃ (k : Nat) (W2 : World), i = .int .i64 k ∧ W2 = W3 ∧ k ≤ l.length ∧ Aside0 (W2.heap[b]? = some (.cells #[.int .i64 ((n + (stThs (l.take k) d lo).length : Nat) : Int), seeV bw] 183 (0, 0)) ∧ Gw Wb W W2 b ∧ (stThs (l.take k) d lo).any f = false)) (fun i _ => l.length - (intOf i).toNat)
  case atStart => exact ⟨0, _, rfl, rfl, Nat.zero_le _, ⟨by simpa [stThs] using HW.out, ⟨HB.out, ⟨rfl, rfl, rfl, Nat.le_refl _, fun _ _ _ => rfl⟩⟩, by simp [stThs]⟩⟩
  case round =>
    obtain ⟨k, W2, rfl, rfl, hk, HK⟩ := hrel
    by_cases hlt : k < l.length
    · obtain ⟨ad, bb, oo, A5, c5, A9, c9, A12, c12, A13, c13, e1, he, hrg, l5, g5, l9, g9, l12, g12, l13, g13⟩ := st_kid HC.out hlt
      cases e1
      have hk1 : (k : Int) < (l.length : Int) := by omega
      have MEM := rd77_mem' hlt
      have IH1 := Aside0.mk (IH.out _ MEM)
      have FM := Aside0.mk (st_form (bd_mem HF.out MEM))
      have BK := Aside0.mk (And.intro (bulkTs_mem MEM) (bulkT_eq (rd_T119 l (k : Int))))
      have SP := Aside0.mk (stThs_split l k hlt d lo)
      have T := Aside0.mk (congrArg (fun l => stThs l d lo) (take_rd119 hlt))
      clear MEM
      have kk : (rd_T119 l (k : Int)).f0 = 1 ∨ (rd_T119 l (k : Int)).f0 = 2 ∨ (rd_T119 l (k : Int)).f0 = 3 ∨ (rd_T119 l (k : Int)).f0 = 4 ∨ (rd_T119 l (k : Int)).f0 = 5 := by have := FM.out.1; have := FM.out.2.1; omega
      generalize rd_T119 l (k : Int) = y at *
      have ST := Aside0.mk (show StAt Wb (.pointer (some ⟨bb, oo, none⟩)) y from ⟨⟨bb, oo, none⟩, A5, c5, A9, c9, A12, c12, A13, c13, rfl, hrg, l5, g5, l9, g9, l12, g12, l13, g13⟩)
      have EA := Aside0.mk (show ExAt Wb (.pointer (some ⟨bb, oo + 2, none⟩)) y.f2 from ⟨⟨bb, oo + 2, none⟩, A5, c5, rfl, range_sub 2 hrg (fun j v hj => by match j, hj with | 0, hj => exact hj | 1, hj => exact hj | 2, hj => exact hj | 3, hj => exact hj | j + 4, hj => simp at hj), l5, g5⟩)
      have EE := Aside0.mk (show ExAt Wb (.pointer (some ⟨bb, oo + 6, none⟩)) y.f3 from ⟨⟨bb, oo + 6, none⟩, A9, c9, rfl, range_sub 6 hrg (fun j v hj => by match j, hj with | 0, hj => exact hj | 1, hj => exact hj | 2, hj => exact hj | 3, hj => exact hj | j + 4, hj => simp at hj), l9, g9⟩)
      have RG := Aside0.mk hrg
      have K := Aside0.mk (And.intro l12 (And.intro g12 (And.intro l13 g13)))
      clear hrg l5 g5 l9 g9 l12 g12 l13 g13
      have NB := Aside0.mk (show n + (stThs (l.take k) d lo).length + ((stTh y d lo).length + (stThs (l.drop (k + 1)) d lo).length) < 4611686018427387904 by have h1 := HN.out.1; rw [SP.out, List.length_append, List.length_append] at h1; omega)
      go_wp2_with fail
      refine (tell_calls HS.out HBB.out W2 (n + (stThs (l.take k) d lo).length) (by have := NB.out; omega) (.pointer none) (.pointer (some ⟨bb, oo, none⟩)) (.pointer none) 0 (d : Int) (.pointer lq) (.stmt y d lo) (HRR.out _ (by rw [SP.out, stTh_eq]; simp)) HK.out.2.1.below HK.out.1 ⟨rfl, ST.out, rfl, rfl, HSC.out.step HW.out HK.out.2.1.grown⟩).mono ?_
      rintro _ W3 ⟨rfl, hw1, hg1⟩
      rcases bcases (f (.stmt y d lo)) with hf | hf
      · rw [hf]
        refine ⟨rfl, ?_, ?_, HK.out.2.1.trans hg1⟩
        · rw [SP.out, outL_add HK.out.2.2, stTh_eq, List.cons_append, outL, if_pos hf]
        · intro h
          rw [SP.out, stTh_eq, List.any_append, List.any_append, List.any_cons, hf] at h
          simp at h
      rw [hf]
      have H1 := Aside0.mk (show W3.heap[b]? = some (.cells #[.int .i64 ((n + (stThs (l.take k) d lo ++ [Th.stmt y d lo]).length : Nat) : Int), seeV bw] 183 (0, 0)) ∧ Gw Wb W W3 b ∧ (stThs (l.take k) d lo ++ [Th.stmt y d lo]).any f = false from ⟨by rw [List.length_append, List.length_singleton, ← Nat.add_assoc]; exact hw1, HK.out.2.1.trans hg1, by rw [List.any_append, HK.out.2.2]; simp [hf]⟩)
      clear hw1 hg1 hf
      rw [show outE false (n + (stThs (l.take k) d lo).length) = .returned (.tuple #[]) from rfl]
      have q0 : W3.cell? ⟨bb, oo, none⟩ = some (.int .i64 y.f0) := held_in H1.out.2.1.below (RG.out 0 _ rfl)
      rcases kk with h0 | h0 | h0 | h0 | h0
      · rw [h0] at q0
        have H0 := Aside0.mk h0
        clear h0
        have SPK := Aside0.mk (show stTh y d lo = Th.stmt y d lo :: ((exTh y.f3 lo)) by
            have FE := FM.out.2.2.1 (by have := H0.out; omega)
            rw [stTh_eq]
            simp [H0.out, FE.1, FE.2, stThs])
        go_wp2_with fail
        have FULL := Aside0.mk (show stThs l d lo = (stThs (l.take k) d lo ++ [Th.stmt y d lo]) ++ (exTh y.f3 lo ++ (stThs (l.drop (k + 1)) d lo)) by rw [SP.out, SPK.out]; simp)
        have BN := Aside0.mk (show n + (stThs (l.take k) d lo ++ [Th.stmt y d lo]).length + (exTh y.f3 lo).length < 4611686018427387904 by have h1 := HN.out.1; rw [FULL.out] at h1; simp only [List.length_append] at h1 ⊢; omega)
        have C := wexpr_calls HS.out HBB.out _ y.f3 (Nat.le_refl _) W3 (n + (stThs (l.take k) d lo ++ [Th.stmt y d lo]).length) (.pointer (some ⟨bb, oo + 6, none⟩)) (.pointer lq) lo (fun t ht => HRR.out t (by rw [FULL.out]; simp [ht])) H1.out.2.1.below H1.out.1 EE.out (HSC.out.step HW.out H1.out.2.1.grown) (by have := BN.out; rw [exTh_len] at this; exact this)
        refine C.mono ?_
        clear C
        rintro _ W4 ⟨rfl, hw3, hg3⟩
        rcases bcases ((exTh y.f3 lo).any f) with ha | ha
        · obtain ⟨mm, hm⟩ := outL_bad (n := n + (stThs (l.take k) d lo ++ [Th.stmt y d lo]).length) ha
          rw [hm]
          refine ⟨rfl, ?_, ?_, H1.out.2.1.trans hg3⟩
          · rw [FULL.out, outL_add H1.out.2.2, outL_head ha, ← hm]
          · intro h
            rw [FULL.out] at h
            simp [ha] at h
        have H2 := Aside0.mk (show W4.heap[b]? = some (.cells #[.int .i64 ((n + (stThs (l.take k) d lo ++ [Th.stmt y d lo] ++ exTh y.f3 lo).length : Nat) : Int), seeV bw] 183 (0, 0)) ∧ Gw Wb W W4 b ∧ (stThs (l.take k) d lo ++ [Th.stmt y d lo] ++ exTh y.f3 lo).any f = false from ⟨by rw [List.length_append, exTh_len, ← Nat.add_assoc]; exact hw3 ha, H1.out.2.1.trans hg3, by rw [List.any_append, H1.out.2.2, ha]; rfl⟩)
        rw [outL_ret ha]
        clear ha hw3 hg3 FULL BN
        go_wp2_with fail
        have HX := Aside0.mk (show stThs (l.take k) d lo ++ [Th.stmt y d lo] ++ exTh y.f3 lo = stThs (l.take (k + 1)) d lo by
            have h2 := T.out
            simp only [stThs_add] at h2
            rw [h2, SPK.out] <;> simp)
        refine ⟨⟨k + 1, W4, by go_num, rfl, by omega, ⟨?_, H2.out.2.1, ?_⟩⟩, by simp [intOf]; omega⟩
        · rw [← HX.out]
          exact H2.out.1
        · rw [← HX.out]
          exact H2.out.2.2
      · rw [h0] at q0
        have H0 := Aside0.mk h0
        clear h0
        have SPK := Aside0.mk (show stTh y d lo = Th.stmt y d lo :: ((exTh y.f2 lo) ++ (exTh y.f3 lo)) by
            have FE := FM.out.2.2.1 (by have := H0.out; omega)
            rw [stTh_eq]
            simp [H0.out, FE.1, FE.2, stThs])
        go_wp2_with fail
        have FULL := Aside0.mk (show stThs l d lo = (stThs (l.take k) d lo ++ [Th.stmt y d lo]) ++ (exTh y.f2 lo ++ (exTh y.f3 lo ++ (stThs (l.drop (k + 1)) d lo))) by rw [SP.out, SPK.out]; simp)
        have BN := Aside0.mk (show n + (stThs (l.take k) d lo ++ [Th.stmt y d lo]).length + (exTh y.f2 lo).length < 4611686018427387904 by have h1 := HN.out.1; rw [FULL.out] at h1; simp only [List.length_append] at h1 ⊢; omega)
        have C := wexpr_calls HS.out HBB.out _ y.f2 (Nat.le_refl _) W3 (n + (stThs (l.take k) d lo ++ [Th.stmt y d lo]).length) (.pointer (some ⟨bb, oo + 2, none⟩)) (.pointer lq) lo (fun t ht => HRR.out t (by rw [FULL.out]; simp [ht])) H1.out.2.1.below H1.out.1 EA.out (HSC.out.step HW.out H1.out.2.1.grown) (by have := BN.out; rw [exTh_len] at this; exact this)
        refine C.mono ?_
        clear C
        rintro _ W4 ⟨rfl, hw3, hg3⟩
        rcases bcases ((exTh y.f2 lo).any f) with ha | ha
        · obtain ⟨mm, hm⟩ := outL_bad (n := n + (stThs (l.take k) d lo ++ [Th.stmt y d lo]).length) ha
          rw [hm]
          refine ⟨rfl, ?_, ?_, H1.out.2.1.trans hg3⟩
          · rw [FULL.out, outL_add H1.out.2.2, outL_head ha, ← hm]
          · intro h
            rw [FULL.out] at h
            simp [ha] at h
        have H2 := Aside0.mk (show W4.heap[b]? = some (.cells #[.int .i64 ((n + (stThs (l.take k) d lo ++ [Th.stmt y d lo] ++ exTh y.f2 lo).length : Nat) : Int), seeV bw] 183 (0, 0)) ∧ Gw Wb W W4 b ∧ (stThs (l.take k) d lo ++ [Th.stmt y d lo] ++ exTh y.f2 lo).any f = false from ⟨by rw [List.length_append, exTh_len, ← Nat.add_assoc]; exact hw3 ha, H1.out.2.1.trans hg3, by rw [List.any_append, H1.out.2.2, ha]; rfl⟩)
        rw [outL_ret ha]
        clear ha hw3 hg3 FULL BN
        go_wp2_with fail
        have FULL := Aside0.mk (show stThs l d lo = (stThs (l.take k) d lo ++ [Th.stmt y d lo] ++ exTh y.f2 lo) ++ (exTh y.f3 lo ++ (stThs (l.drop (k + 1)) d lo)) by rw [SP.out, SPK.out]; simp)
        have BN := Aside0.mk (show n + (stThs (l.take k) d lo ++ [Th.stmt y d lo] ++ exTh y.f2 lo).length + (exTh y.f3 lo).length < 4611686018427387904 by have h1 := HN.out.1; rw [FULL.out] at h1; simp only [List.length_append] at h1 ⊢; omega)
        have C := wexpr_calls HS.out HBB.out _ y.f3 (Nat.le_refl _) W4 (n + (stThs (l.take k) d lo ++ [Th.stmt y d lo] ++ exTh y.f2 lo).length) (.pointer (some ⟨bb, oo + 6, none⟩)) (.pointer lq) lo (fun t ht => HRR.out t (by rw [FULL.out]; simp [ht])) H2.out.2.1.below H2.out.1 EE.out (HSC.out.step HW.out H2.out.2.1.grown) (by have := BN.out; rw [exTh_len] at this; exact this)
        refine C.mono ?_
        clear C
        rintro _ W5 ⟨rfl, hw3, hg3⟩
        rcases bcases ((exTh y.f3 lo).any f) with ha | ha
        · obtain ⟨mm, hm⟩ := outL_bad (n := n + (stThs (l.take k) d lo ++ [Th.stmt y d lo] ++ exTh y.f2 lo).length) ha
          rw [hm]
          refine ⟨rfl, ?_, ?_, H2.out.2.1.trans hg3⟩
          · rw [FULL.out, outL_add H2.out.2.2, outL_head ha, ← hm]
          · intro h
            rw [FULL.out] at h
            simp [ha] at h
        have H3 := Aside0.mk (show W5.heap[b]? = some (.cells #[.int .i64 ((n + (stThs (l.take k) d lo ++ [Th.stmt y d lo] ++ exTh y.f2 lo ++ exTh y.f3 lo).length : Nat) : Int), seeV bw] 183 (0, 0)) ∧ Gw Wb W W5 b ∧ (stThs (l.take k) d lo ++ [Th.stmt y d lo] ++ exTh y.f2 lo ++ exTh y.f3 lo).any f = false from ⟨by rw [List.length_append, exTh_len, ← Nat.add_assoc]; exact hw3 ha, H2.out.2.1.trans hg3, by rw [List.any_append, H2.out.2.2, ha]; rfl⟩)
        rw [outL_ret ha]
        clear ha hw3 hg3 FULL BN
        go_wp2_with fail
        have HX := Aside0.mk (show stThs (l.take k) d lo ++ [Th.stmt y d lo] ++ exTh y.f2 lo ++ exTh y.f3 lo = stThs (l.take (k + 1)) d lo by
            have h2 := T.out
            simp only [stThs_add] at h2
            rw [h2, SPK.out] <;> simp)
        refine ⟨⟨k + 1, W5, by go_num, rfl, by omega, ⟨?_, H3.out.2.1, ?_⟩⟩, by simp [intOf]; omega⟩
        · rw [← HX.out]
          exact H3.out.1
        · rw [← HX.out]
          exact H3.out.2.2
      · rw [h0] at q0
        have H0 := Aside0.mk h0
        clear h0
        have SPK := Aside0.mk (show stTh y d lo = Th.stmt y d lo :: ((exTh y.f3 lo) ++ (stThs y.f6 (d + 1) lo) ++ (stThs y.f7 (d + 1) lo)) by
            skip
            rw [stTh_eq]
            simp [H0.out, inLoop])
        have KQ := Aside0.mk (And.intro (RG.out 12 _ rfl) (RG.out 13 _ rfl))
        go_wp2_with fail
        have FULL := Aside0.mk (show stThs l d lo = (stThs (l.take k) d lo ++ [Th.stmt y d lo]) ++ (exTh y.f3 lo ++ (stThs y.f6 (d + 1) lo ++ (stThs y.f7 (d + 1) lo ++ (stThs (l.drop (k + 1)) d lo)))) by rw [SP.out, SPK.out]; simp)
        have BN := Aside0.mk (show n + (stThs (l.take k) d lo ++ [Th.stmt y d lo]).length + (exTh y.f3 lo).length < 4611686018427387904 by have h1 := HN.out.1; rw [FULL.out] at h1; simp only [List.length_append] at h1 ⊢; omega)
        have C := wexpr_calls HS.out HBB.out _ y.f3 (Nat.le_refl _) W3 (n + (stThs (l.take k) d lo ++ [Th.stmt y d lo]).length) (.pointer (some ⟨bb, oo + 6, none⟩)) (.pointer lq) lo (fun t ht => HRR.out t (by rw [FULL.out]; simp [ht])) H1.out.2.1.below H1.out.1 EE.out (HSC.out.step HW.out H1.out.2.1.grown) (by have := BN.out; rw [exTh_len] at this; exact this)
        refine C.mono ?_
        clear C
        rintro _ W4 ⟨rfl, hw3, hg3⟩
        rcases bcases ((exTh y.f3 lo).any f) with ha | ha
        · obtain ⟨mm, hm⟩ := outL_bad (n := n + (stThs (l.take k) d lo ++ [Th.stmt y d lo]).length) ha
          rw [hm]
          refine ⟨rfl, ?_, ?_, H1.out.2.1.trans hg3⟩
          · rw [FULL.out, outL_add H1.out.2.2, outL_head ha, ← hm]
          · intro h
            rw [FULL.out] at h
            simp [ha] at h
        have H2 := Aside0.mk (show W4.heap[b]? = some (.cells #[.int .i64 ((n + (stThs (l.take k) d lo ++ [Th.stmt y d lo] ++ exTh y.f3 lo).length : Nat) : Int), seeV bw] 183 (0, 0)) ∧ Gw Wb W W4 b ∧ (stThs (l.take k) d lo ++ [Th.stmt y d lo] ++ exTh y.f3 lo).any f = false from ⟨by rw [List.length_append, exTh_len, ← Nat.add_assoc]; exact hw3 ha, H1.out.2.1.trans hg3, by rw [List.any_append, H1.out.2.2, ha]; rfl⟩)
        rw [outL_ret ha]
        clear ha hw3 hg3 FULL BN
        have q20 : W4.cell? ⟨bb, oo + 12, none⟩ = some (.slice A12 y.f6.length c12) := held_in H2.out.2.1.below KQ.out.1
        go_wp2_with fail
        have FULL := Aside0.mk (show stThs l d lo = (stThs (l.take k) d lo ++ [Th.stmt y d lo] ++ exTh y.f3 lo) ++ (stThs y.f6 (d + 1) lo ++ (stThs y.f7 (d + 1) lo ++ (stThs (l.drop (k + 1)) d lo))) by rw [SP.out, SPK.out]; simp)
        have BN := Aside0.mk (show n + (stThs (l.take k) d lo ++ [Th.stmt y d lo] ++ exTh y.f3 lo).length + (stThs y.f6 (d + 1) lo).length < 4611686018427387904 by have h1 := HN.out.1; rw [FULL.out] at h1; simp only [List.length_append] at h1 ⊢; omega)
        have C := IH1.out.1 W4 (n + (stThs (l.take k) d lo ++ [Th.stmt y d lo] ++ exTh y.f3 lo).length) (.pointer lq) lo A12 c12 (d + 1) (wrap64 ((d : Int) + 1)) (fun t ht => HRR.out t (by rw [FULL.out]; simp [ht])) (wrapN (by have := HN.out.2; omega)) FM.out.2.2.2.2.1 H2.out.2.1.below H2.out.1 K.out.2.1 K.out.1 (HSC.out.step HW.out H2.out.2.1.grown) BN.out (by have h1 := HN.out.2; have h2 := BK.out; omega)
        refine C.mono ?_
        clear C
        rintro _ W5 ⟨rfl, hw3, hg3⟩
        rcases bcases ((stThs y.f6 (d + 1) lo).any f) with ha | ha
        · obtain ⟨mm, hm⟩ := outL_bad (n := n + (stThs (l.take k) d lo ++ [Th.stmt y d lo] ++ exTh y.f3 lo).length) ha
          rw [hm]
          refine ⟨rfl, ?_, ?_, H2.out.2.1.trans hg3⟩
          · rw [FULL.out, outL_add H2.out.2.2, outL_head ha, ← hm]
          · intro h
            rw [FULL.out] at h
            simp [ha] at h
        have H3 := Aside0.mk (show W5.heap[b]? = some (.cells #[.int .i64 ((n + (stThs (l.take k) d lo ++ [Th.stmt y d lo] ++ exTh y.f3 lo ++ stThs y.f6 (d + 1) lo).length : Nat) : Int), seeV bw] 183 (0, 0)) ∧ Gw Wb W W5 b ∧ (stThs (l.take k) d lo ++ [Th.stmt y d lo] ++ exTh y.f3 lo ++ stThs y.f6 (d + 1) lo).any f = false from ⟨by rw [List.length_append, ← Nat.add_assoc]; exact hw3 ha, H2.out.2.1.trans hg3, by rw [List.any_append, H2.out.2.2, ha]; rfl⟩)
        rw [outL_ret ha]
        clear ha hw3 hg3 FULL BN
        have q21 : W5.cell? ⟨bb, oo + 13, none⟩ = some (.slice A13 y.f7.length c13) := held_in H3.out.2.1.below KQ.out.2
        go_wp2_with fail
        have FULL := Aside0.mk (show stThs l d lo = (stThs (l.take k) d lo ++ [Th.stmt y d lo] ++ exTh y.f3 lo ++ stThs y.f6 (d + 1) lo) ++ (stThs y.f7 (d + 1) lo ++ (stThs (l.drop (k + 1)) d lo)) by rw [SP.out, SPK.out]; simp)
        have BN := Aside0.mk (show n + (stThs (l.take k) d lo ++ [Th.stmt y d lo] ++ exTh y.f3 lo ++ stThs y.f6 (d + 1) lo).length + (stThs y.f7 (d + 1) lo).length < 4611686018427387904 by have h1 := HN.out.1; rw [FULL.out] at h1; simp only [List.length_append] at h1 ⊢; omega)
        have C := IH1.out.2 W5 (n + (stThs (l.take k) d lo ++ [Th.stmt y d lo] ++ exTh y.f3 lo ++ stThs y.f6 (d + 1) lo).length) (.pointer lq) lo A13 c13 (d + 1) (wrap64 ((d : Int) + 1)) (fun t ht => HRR.out t (by rw [FULL.out]; simp [ht])) (wrapN (by have := HN.out.2; omega)) FM.out.2.2.2.2.2 H3.out.2.1.below H3.out.1 K.out.2.2.2 K.out.2.2.1 (HSC.out.step HW.out H3.out.2.1.grown) BN.out (by have h1 := HN.out.2; have h2 := BK.out; omega)
        refine C.mono ?_
        clear C
        rintro _ W6 ⟨rfl, hw3, hg3⟩
        rcases bcases ((stThs y.f7 (d + 1) lo).any f) with ha | ha
        · obtain ⟨mm, hm⟩ := outL_bad (n := n + (stThs (l.take k) d lo ++ [Th.stmt y d lo] ++ exTh y.f3 lo ++ stThs y.f6 (d + 1) lo).length) ha
          rw [hm]
          refine ⟨rfl, ?_, ?_, H3.out.2.1.trans hg3⟩
          · rw [FULL.out, outL_add H3.out.2.2, outL_head ha, ← hm]
          · intro h
            rw [FULL.out] at h
            simp [ha] at h
        have H4 := Aside0.mk (show W6.heap[b]? = some (.cells #[.int .i64 ((n + (stThs (l.take k) d lo ++ [Th.stmt y d lo] ++ exTh y.f3 lo ++ stThs y.f6 (d + 1) lo ++ stThs y.f7 (d + 1) lo).length : Nat) : Int), seeV bw] 183 (0, 0)) ∧ Gw Wb W W6 b ∧ (stThs (l.take k) d lo ++ [Th.stmt y d lo] ++ exTh y.f3 lo ++ stThs y.f6 (d + 1) lo ++ stThs y.f7 (d + 1) lo).any f = false from ⟨by rw [List.length_append, ← Nat.add_assoc]; exact hw3 ha, H3.out.2.1.trans hg3, by rw [List.any_append, H3.out.2.2, ha]; rfl⟩)
        rw [outL_ret ha]
        clear ha hw3 hg3 FULL BN
        go_wp2_with fail
        have HX := Aside0.mk (show stThs (l.take k) d lo ++ [Th.stmt y d lo] ++ exTh y.f3 lo ++ stThs y.f6 (d + 1) lo ++ stThs y.f7 (d + 1) lo = stThs (l.take (k + 1)) d lo by
            have h2 := T.out
            simp only [stThs_add] at h2
            rw [h2, SPK.out] <;> simp)
        refine ⟨⟨k + 1, W6, by go_num, rfl, by omega, ⟨?_, H4.out.2.1, ?_⟩⟩, by simp [intOf]; omega⟩
        · rw [← HX.out]
          exact H4.out.1
        · rw [← HX.out]
          exact H4.out.2.2
      · rw [h0] at q0
        have H0 := Aside0.mk h0
        clear h0
        have SPK := Aside0.mk (show stTh y d lo = Th.stmt y d lo :: ((stThs y.f6 (d + 1) (lo ++ [y.f1]))) by
            have FE := FM.out.2.2.2.1 H0.out
            rw [stTh_eq]
            simp [H0.out, FE, stThs, inLoop])
        have FULL := Aside0.mk (show stThs l d lo = (stThs (l.take k) d lo ++ [Th.stmt y d lo]) ++ (stThs y.f6 (d + 1) (lo ++ [y.f1]) ++ (stThs (l.drop (k + 1)) d lo)) by rw [SP.out, SPK.out]; simp)
        have BN := Aside0.mk (show n + (stThs (l.take k) d lo ++ [Th.stmt y d lo]).length + (stThs y.f6 (d + 1) (lo ++ [y.f1])).length < 4611686018427387904 by have h1 := HN.out.1; rw [FULL.out] at h1; simp only [List.length_append] at h1 ⊢; omega)
        go_upto_region 15 with (fail)
        have t12 : ∀ g' : G W3, g'.W.cell? ⟨bb, oo + 12, none⟩ = some (.slice A12 y.f6.length c12) := fun g' => held_in g'.below (held_in H1.out.2.1.below (RG.out 12 _ rfl))
        have t1 : ∀ g' : G W3, g'.W.cell? ⟨bb, oo + 1, none⟩ = some (.string y.f1) := fun g' => held_in g'.below (held_in H1.out.2.1.below (RG.out 1 _ rfl))
        refine start_ (n := 15) (S := fun w' => ∃ g' : G W3, w' = g'.W) (ds := [14]) #[false, false, false, false, false, false, false, false, false, false, false, false, false, false, false] (by kernel_rfl) rfl rfl ⟨mkG (Below.refl _ _).drew, rfl⟩ (fun hHeld => ?_)
        obtain ⟨gd, hgd⟩ := hHeld
        rw [hgd]
        clear hgd
        refine pure_ (i := 0) (N := some 72) (v := ?_) (a' := ?_) #[true, false, false, false, false, false, false, false, false, false, false, false, false, false, false] rfl rfl (by kernel_rfl) (fun _ _ _ h => h) (Or.inl ⟨by rfl, ?_⟩) ?_ ?_
        rotate_left
        · intro w'
          go_simp
          with_reducible rfl
        rotate_left
        · simp only [Act.put, List.setIfInBounds_toArray, List.set_cons_zero, List.set_cons_succ, i64_w, i32_w]
          rfl
        refine pure_ (i := 1) (N := some 73) (v := ?_) (a' := ?_) #[true, true, false, false, false, false, false, false, false, false, false, false, false, false, false] rfl rfl (by kernel_rfl) (fun _ _ _ h => h) (Or.inl ⟨by rfl, ?_⟩) ?_ ?_
        rotate_left
        · intro w'
          go_simp
          with_reducible rfl
        rotate_left
        · simp only [Act.put, List.setIfInBounds_toArray, List.set_cons_zero, List.set_cons_succ, i64_w, i32_w]
          rfl
        refine pure_ (i := 2) (N := some 74) (v := ?_) (a' := ?_) #[true, true, true, false, false, false, false, false, false, false, false, false, false, false, false] rfl rfl (by kernel_rfl) (fun _ _ _ h => h) (Or.inl ⟨by rfl, ?_⟩) ?_ ?_
        rotate_left
        · intro w'
          go_simp
          with_reducible rfl
        rotate_left
        · simp only [Act.put, List.setIfInBounds_toArray, List.set_cons_zero, List.set_cons_succ, i64_w, i32_w]
          rfl
        refine pure_ (i := 3) (N := some 75) (v := ?_) (a' := ?_) #[true, true, true, true, false, false, false, false, false, false, false, false, false, false, false] rfl rfl (by kernel_rfl) (fun _ _ _ h => h) (Or.inl ⟨by rfl, ?_⟩) ?_ ?_
        rotate_left
        · intro w'
          go_simp
          with_reducible rfl
        rotate_left
        · simp only [Act.put, List.setIfInBounds_toArray, List.set_cons_zero, List.set_cons_succ, i64_w, i32_w]
          rfl
        refine pure_ (i := 5) (N := some 77) (v := ?_) (a' := ?_) #[true, true, true, true, false, true, false, false, false, false, false, false, false, false, false] rfl rfl (by kernel_rfl) (fun _ _ _ h => h) (Or.inl ⟨by rfl, ?_⟩) ?_ ?_
        rotate_left
        · intro w'
          go_simp
          with_reducible rfl
        rotate_left
        · simp only [Act.put, List.setIfInBounds_toArray, List.set_cons_zero, List.set_cons_succ, i64_w, i32_w]
          rfl
        refine pure_ (i := 6) (N := some 78) (v := ?_) (a' := ?_) #[true, true, true, true, false, true, true, false, false, false, false, false, false, false, false] rfl rfl (by kernel_rfl) (fun _ _ _ h => h) (Or.inl ⟨by rfl, ?_⟩) ?_ ?_
        rotate_left
        · intro w'
          go_simp
          with_reducible rfl
        rotate_left
        · simp only [Act.put, List.setIfInBounds_toArray, List.set_cons_zero, List.set_cons_succ, i64_w, i32_w]
          rfl
        refine pure_ (i := 7) (N := some 79) (v := ?_) (a' := ?_) #[true, true, true, true, false, true, true, true, false, false, false, false, false, false, false] rfl rfl (by kernel_rfl) (fun _ _ _ h => h) (Or.inl ⟨by rfl, ?_⟩) ?_ ?_
        rotate_left
        · intro w'
          go_simp
          with_reducible rfl
        rotate_left
        · simp only [Act.put, List.setIfInBounds_toArray, List.set_cons_zero, List.set_cons_succ, i64_w, i32_w]
          rfl
        refine pure_ (i := 8) (N := some 80) (v := ?_) (a' := ?_) #[true, true, true, true, false, true, true, true, true, false, false, false, false, false, false] rfl rfl (by kernel_rfl) (fun _ _ _ h => h) (Or.inl ⟨by rfl, ?_⟩) ?_ ?_
        rotate_left
        · intro w'
          go_simp
          with_reducible rfl
        rotate_left
        · simp only [Act.put, List.setIfInBounds_toArray, List.set_cons_zero, List.set_cons_succ, i64_w, i32_w]
          rfl
        refine pure_ (i := 9) (N := some 81) (v := ?_) (a' := ?_) #[true, true, true, true, false, true, true, true, true, true, false, false, false, false, false] rfl rfl (by kernel_rfl) (fun _ _ _ h => h) (Or.inl ⟨by rfl, ?_⟩) ?_ ?_
        rotate_left
        · intro w'
          go_simp
          with_reducible rfl
        rotate_left
        · simp only [Act.put, List.setIfInBounds_toArray, List.set_cons_zero, List.set_cons_succ, i64_w, i32_w]
          rfl
        refine pure_ (i := 11) (N := some 83) (v := ?_) (a' := ?_) #[true, true, true, true, false, true, true, true, true, true, false, true, false, false, false] rfl rfl (by kernel_rfl) (fun _ _ _ h => h) (Or.inl ⟨by rfl, ?_⟩) ?_ ?_
        rotate_left
        · intro w'
          go_simp
          with_reducible rfl
        rotate_left
        · simp only [Act.put, List.setIfInBounds_toArray, List.set_cons_zero, List.set_cons_succ, i64_w, i32_w]
          rfl
        refine take_ (i := 4) (N := some 76) (v := ?_) (a' := ?_) #[true, true, true, true, true, true, true, true, true, true, false, true, false, false, false] rfl rfl (by kernel_rfl) (fun _ _ _ h => h) (Or.inl ⟨by rfl, ?_⟩) ⟨gd, rfl⟩ ?_ ?_
        rotate_left
        · rintro w' ⟨g', rfl⟩
          go_simp
          with_reducible rfl
        rotate_left
        · simp only [Act.put, List.setIfInBounds_toArray, List.set_cons_zero, List.set_cons_succ, i64_w, i32_w]
          rfl
        refine take_ (i := 10) (N := some 82) (v := ?_) (a' := ?_) #[true, true, true, true, true, true, true, true, true, true, true, true, false, false, false] rfl rfl (by kernel_rfl) (fun _ _ _ h => h) (Or.inl ⟨by rfl, ?_⟩) ⟨gd, rfl⟩ ?_ ?_
        rotate_left
        · rintro w' ⟨g', rfl⟩
          go_simp
          with_reducible rfl
        rotate_left
        · simp only [Act.put, List.setIfInBounds_toArray, List.set_cons_zero, List.set_cons_succ, i64_w, i32_w]
          rfl
        refine pure_ (i := 12) (N := some 84) (v := ?_) (a' := ?_) #[true, true, true, true, true, true, true, true, true, true, true, true, true, false, false] rfl rfl (by kernel_rfl) (fun _ _ _ h => h) (Or.inl ⟨by rfl, ?_⟩) ?_ ?_
        rotate_left
        · intro w'
          go_simp
          with_reducible rfl
        rotate_left
        · simp only [Act.put, List.setIfInBounds_toArray, List.set_cons_zero, List.set_cons_succ, i64_w, i32_w]
          rfl
        refine one_ (i := 13) (N := some 85) #[true, true, true, true, true, true, true, true, true, true, true, true, true, true, false] rfl rfl (by kernel_rfl) (by simp) (fun K9 hK => ?_)
        refine box_step ?hg (N := 85) ?hd (cs := #[.string y.f1, .pointer lq]) (t := 121) ?hr ?_; (case hd => rfl); (case hg => rfl); (case hr => first | (go_simp; done) | (go_simp; rfl))
        intro b9 hb9 w9 hbx hbl
        obtain ⟨ge, rfl⟩ : ∃ g' : G W3, w9 = g'.W := ⟨mkG (gd.below.trans (hbl.mono gd.below.size)), rfl⟩
        refine hK.out _ _ ⟨ge, rfl⟩ (fun _ => ?_)
        clear hK K9
        refine norm_ (a' := ?_) ?_ ?_
        rotate_left
        · show Act.put _ (some 85) _ = _
          simp only [Act.put, List.setIfInBounds_toArray, List.set_cons_zero, List.set_cons_succ, i64_w, i32_w]
          rfl
        have HE := Aside0.mk (show Gw Wb W ge.W b from H1.out.2.1.trans (Gw.of_below b H1.out.2.1.below ge.below))
        have HEB := Aside0.mk (blk_below H1.out.1 ge.below)
        have HES := Aside0.mk (show ScopeR ge.W (.pointer (some ⟨b9, 0, none⟩)) (lo ++ [y.f1]).reverse by rw [List.reverse_append]; exact ⟨b9, .pointer lq, rfl, hbx, (HSC.out.step HW.out H1.out.2.1.grown).below ge.below⟩)
        refine last_ (i := 14) (N := some 86) #[true, true, true, true, true, true, true, true, true, true, true, true, true, true, true] rfl rfl (by kernel_rfl) (by simp) (fun K9 hK => ?_)
        refine callP_ 123 #[.pointer (some ⟨b, 0, none⟩), .slice A12 y.f6.length c12, .int .i64 (wrap64 ((d : Int) + 1)), .pointer (some ⟨b9, 0, none⟩)] (by rfl) rfl (by first | (go_simp; done) | (go_simp; rfl)) ?_
        have C := IH1.out.1 ge.W (n + (stThs (l.take k) d lo ++ [Th.stmt y d lo]).length) (.pointer (some ⟨b9, 0, none⟩)) (lo ++ [y.f1]) A12 c12 (d + 1) (wrap64 ((d : Int) + 1)) (fun t ht => HRR.out t (by rw [FULL.out]; simp [ht])) (wrapN (by have := HN.out.2; omega)) FM.out.2.2.2.2.1 HE.out.below HEB.out K.out.2.1 K.out.1 HES.out BN.out (by have h1 := HN.out.2; have h2 := BK.out; omega)
        refine C.mono ?_
        clear C
        rintro _ W4 ⟨rfl, hw3, hg3⟩
        rcases bcases ((stThs y.f6 (d + 1) (lo ++ [y.f1])).any f) with ha | ha
        · right
          obtain ⟨mm, hm⟩ := outL_bad (n := n + (stThs (l.take k) d lo ++ [Th.stmt y d lo]).length) ha
          rw [hm]
          refine ⟨_, rfl, rfl, ?_, ?_, HE.out.trans hg3⟩
          · rw [FULL.out, outL_add H1.out.2.2, outL_head ha, ← hm]
          · intro h
            rw [FULL.out] at h
            simp [ha] at h
        have H2 := Aside0.mk (show W4.heap[b]? = some (.cells #[.int .i64 ((n + (stThs (l.take k) d lo ++ [Th.stmt y d lo] ++ stThs y.f6 (d + 1) (lo ++ [y.f1])).length : Nat) : Int), seeV bw] 183 (0, 0)) ∧ Gw Wb W W4 b ∧ (stThs (l.take k) d lo ++ [Th.stmt y d lo] ++ stThs y.f6 (d + 1) (lo ++ [y.f1])).any f = false from ⟨by rw [List.length_append, ← Nat.add_assoc]; exact hw3 ha, HE.out.trans hg3, by rw [List.any_append, H1.out.2.2, ha]; rfl⟩)
        left
        refine ⟨.tuple #[], by rw [outL_ret ha], ?_⟩
        clear ha hw3 hg3
        refine hK.out _ _ ?_
        clear hK K9
        refine norm_ (a' := ?_) ?_ ?_
        rotate_left
        · show Act.put _ (some 86) _ = _
          simp only [Act.put, List.setIfInBounds_toArray, List.set_cons_zero, List.set_cons_succ, i64_w, i32_w]
          rfl
        refine done_ (by kernel_rfl) ?_
        clear t12 t1
        go_wp2_with fail
        have HX := Aside0.mk (show stThs (l.take k) d lo ++ [Th.stmt y d lo] ++ stThs y.f6 (d + 1) (lo ++ [y.f1]) = stThs (l.take (k + 1)) d lo by
            have h2 := T.out
            simp only [stThs_add] at h2
            rw [h2, SPK.out] <;> simp)
        refine ⟨⟨k + 1, W4, by go_num, rfl, by omega, ⟨?_, H2.out.2.1, ?_⟩⟩, by simp [intOf]; omega⟩
        · rw [← HX.out]
          exact H2.out.1
        · rw [← HX.out]
          exact H2.out.2.2
      · rw [h0] at q0
        have H0 := Aside0.mk h0
        clear h0
        have SPK := Aside0.mk (show stTh y d lo = Th.stmt y d lo :: ([]) by
            have FE := FM.out.2.2.1 (by have := H0.out; omega)
            rw [stTh_eq]
            simp [H0.out, FE.1, FE.2, stThs])
        go_wp2_with fail
        have HX := Aside0.mk (show stThs (l.take k) d lo ++ [Th.stmt y d lo] = stThs (l.take (k + 1)) d lo by
            have h2 := T.out
            simp only [stThs_add] at h2
            rw [h2, SPK.out] <;> simp)
        refine ⟨⟨k + 1, W3, by go_num, rfl, by omega, ⟨?_, H1.out.2.1, ?_⟩⟩, by simp [intOf]; omega⟩
        · rw [← HX.out]
          exact H1.out.1
        · rw [← HX.out]
          exact H1.out.2.2
    · go_wp2_with fail
      first | go_end0 | skip
      have hke : k = l.length := by omega
      have h1 := HK.out
      rw [hke, List.take_length] at h1
      exact ⟨(outL_ret h1.2.2).symm, fun _ => h1.1, h1.2.1⟩
theorem wstmts_calls {Wb : World} {bw b : Nat} {R : Th → Prop} {f : Th → Bool} (hs : SeeOK Wb bw R f) (hbb : Wb.heap.size ≤ b) : ∀ (n : Nat) (l : List S119), SizeOf.sizeOf l ≤ n → WStmts Wb bw b R f l := by
  intro n
  induction n with
  | zero => intro l h; cases l <;> simp at h <;> omega
  | succ n ih =>
    intro l h
    refine wstmts_walk hs hbb l fun x hx => ?_
    have h1 := List.sizeOf_lt_of_mem hx
    obtain ⟨a, b, c, d, e, f, g, k⟩ := x
    simp only [S119.mk.sizeOf_spec] at h1
    exact ⟨ih _ (by show SizeOf.sizeOf g ≤ n; omega), ih _ (by show SizeOf.sizeOf k ≤ n; omega)⟩
end Go.Proofs.YtfigjpehecibeaaGreat.L
end
section
namespace Go.Proofs.YtfigjpehecibeaaGreat.L
open Go.RowKit Go.Proofs.YtfigjpehecibeaaGreatW.PrintWords Go.Proofs.YtfigjpehecibeaaGreatW.PrintLast Go.Proofs.YtfigjpehecibeaaGreatW.PrintMore Go.Proofs.YtfigjpehecibeaaGreat.Gr
set_option linter.unusedVariables false
set_option linter.unusedSimpArgs false
attribute [local go_sem] G.cell
theorem wp_name {P : Program} {c : Code} {Q : Exit → Act → World → Prop} {a : Act} {w : World} (h : ∀ X, X = w → c.wp P Q a X) : c.wp P Q a w := h w rfl
theorem Gw.out {Wb W X W' : World} {b : Nat} (h : Gw Wb X W' b) (hX : Below W.heap.size W X) (hb : W.heap.size ≤ b) : Below W.heap.size W W' :=
  ⟨h.grown.os.trans hX.os, h.grown.tape.trans hX.tape, h.grown.output.trans hX.output, Nat.le_trans hX.size h.grown.size, fun i hi => (h.grown.block i (Nat.lt_of_lt_of_le hi hX.size) (fun e => by injection e with e; omega)).trans (hX.block i hi)⟩
def outA (f : Th → Bool) (l : List Th) : Ending := if l.any f = true then outL f 0 l else .returned (.int .i64 (l.length : Int))
theorem decls_split (ds : List S70) (k : Nat) (hk : k < ds.length) : (List.range ds.length).map Th.decl = (List.range k).map Th.decl ++ ([Th.decl k] ++ ((List.range ds.length).drop (k + 1)).map Th.decl) := by
  have h : (List.range ds.length) = List.range k ++ ([k] ++ (List.range ds.length).drop (k + 1)) := by
    have h1 := (List.take_append_drop (k + 1) (List.range ds.length)).symm
    rw [List.take_range, Nat.min_eq_left (by omega), List.range_succ, List.append_assoc] at h1
    exact h1
  conv => lhs; rw [h]
  rw [List.map_append, List.map_append]
  rfl
set_option maxHeartbeats 1500000 in
set_option maxRecDepth 100000 in
theorem all_calls {Wb : World} {bw : Nat} {R : Th → Prop} {f : Th → Bool} (hs : SeeOK Wb bw R f) (nm : ByteArray) (wd ln : Int) (ds : List S70) (bd : List S119) (A3 : Option Addr) (c3 : Nat) (A4 : Option Addr) (c4 : Nat) (hp : ProgAt Wb ds bd A3 c3 A4 c4) (hform : bdB bd = true) (hdl : ds.length ≤ 1048576) (hbb : Ot.bulkTs bd ≤ 1048576)
    (hR : ∀ t ∈ things ds bd, R t) (W : World) (hB : Below Wb.heap.size Wb W) :
    Calls Tryz.prog 76 #[.agg #[.string nm, .int .i64 wd, .int .i64 ln, .slice A3 ds.length c3, .slice A4 bd.length c4], seeV bw] W fun r W' => r = outA f (things ds bd) ∧ Below W.heap.size W W' := by
  have HS := Aside0.mk hs
  have HRR := Aside0.mk hR
  clear hR
  have HP := Aside0.mk hp
  have HF := Aside0.mk hform
  have HZ := Aside0.mk (And.intro hdl hbb)
  have HB := Aside0.mk hB
  have hlm := hp.hd.2.1
  have hl4 := hp.hlb
  clear hs hp hform hdl hbb hB
  go_enter Tryz.func76, Tryz.ntmps76
  go_upto_region 2 with (fail)
  refine wp_name ?_
  intro X hX
  have HWX := Aside0.mk (show Below W.heap.size W X by rw [hX]; exact ((Below.refl _ _).alloc (Nat.le_refl _) _).alloc (by simp) _)
  have HBX := Aside0.mk (HB.out.trans (HWX.out.mono HB.out.size))
  have HXb := Aside0.mk (show X.heap[W.heap.size + 1]? = some (.cells #[.int .i64 ((0 : Nat) : Int), seeV bw] 183 (0, 0)) by rw [hX]; exact heap_alloc2_new _ _ _)
  have HXp := Aside0.mk (show X.heap[W.heap.size]? = some (.cells #[.string nm, .int .i64 wd, .int .i64 ln, .slice A3 ds.length c3, .slice A4 bd.length c4] 25 (0, 0)) by rw [hX, Below.heap_alloc _ _ _ (by simp)]; exact blk_new _ _)
  clear hX
  have pc : ∀ {W' : World}, Gw Wb X W' (W.heap.size + 1) → W'.heap[W.heap.size]? = some (.cells #[.string nm, .int .i64 wd, .int .i64 ln, .slice A3 ds.length c3, .slice A4 bd.length c4] 25 (0, 0)) := fun h => (h.grown.block _ (blk_lt HXp.out) (fun e => by injection e with e; omega)).trans HXp.out
  have x3 : X.cell? ⟨W.heap.size, 3, none⟩ = some (.slice A3 ds.length c3) := (blk_cell HXp.out 3).trans rfl
  have x4 : X.cell? ⟨W.heap.size, 4, none⟩ = some (.slice A4 bd.length c4) := (blk_cell HXp.out 4).trans rfl
  go_wp2_with fail
  go_loopw [13] (fun i W3 => ∃ (k : Nat) (W2 : World), i = .int .i64 k ∧ W2 = W3 ∧ k ≤ ds.length ∧ Aside0 (W2.heap[W.heap.size + 1]? = some (.cells #[.int .i64 (k : Int), seeV bw] 183 (0, 0)) ∧ Gw Wb X W2 (W.heap.size + 1) ∧ ((List.range k).map Th.decl).any f = false)) (fun i _ => ds.length - (intOf i).toNat)
  case atStart => exact ⟨0, _, rfl, rfl, Nat.zero_le _, ⟨HXb.out, ⟨HBX.out, ⟨rfl, rfl, rfl, Nat.le_refl _, fun _ _ _ => rfl⟩⟩, by simp⟩⟩
  case round =>
    obtain ⟨k, W2, rfl, rfl, hk, HK⟩ := hrel
    have z3 : W2.cell? ⟨W.heap.size, 3, none⟩ = some (.slice A3 ds.length c3) := (blk_cell (pc HK.out.2.1) 3).trans rfl
    have z4 : W2.cell? ⟨W.heap.size, 4, none⟩ = some (.slice A4 bd.length c4) := (blk_cell (pc HK.out.2.1) 4).trans rfl
    by_cases hlt : k < ds.length
    · obtain ⟨ad, A9, c9, e1, _⟩ := at_T70 HP.out.hd (k : Int) (Int.natCast_nonneg _) (by omega)
      cases e1
      have hk1 : (k : Int) < (ds.length : Int) := by omega
      have SP := Aside0.mk (decls_split ds k hlt)
      go_wp2_with fail
      refine (tell_calls HS.out (Nat.le_trans HB.out.size (Nat.le_succ _)) W2 k (by have := HZ.out.1; omega) (.pointer (some (ad.add (k * 4)))) (.pointer none) (.pointer none) 0 0 (.pointer none) (.decl k) (HRR.out _ (by unfold things; rw [SP.out]; simp)) HK.out.2.1.below HK.out.1 ⟨⟨_, rfl⟩, rfl, rfl, rfl, rfl⟩).mono ?_
      rintro _ W3 ⟨rfl, hw1, hg1⟩
      rcases bcases (f (.decl k)) with hf | hf
      · rw [hf]
        refine ⟨rfl, ?_, (HK.out.2.1.trans hg1).out HWX.out (Nat.le_succ _)⟩
        have e : outL f 0 (things ds bd) = .panicked (foundV k) := by
          unfold things
          rw [SP.out, List.append_assoc, outL_add HK.out.2.2, List.append_assoc, List.singleton_append, outL, if_pos hf]
          simp
        unfold outA
        rw [if_pos (by unfold things; rw [SP.out]; simp [hf]), e]
      · rw [hf]
        have HN := Aside0.mk (And.intro hw1 (And.intro hg1 hf))
        clear hw1 hg1 hf
        rw [show outE false k = .returned (.tuple #[]) from rfl]
        go_wp2_with fail
        refine ⟨⟨k + 1, W3, by go_num, rfl, by omega, ⟨HN.out.1, HK.out.2.1.trans HN.out.2.1, by rw [range_succ_map, List.any_append, HK.out.2.2]; simp [HN.out.2.2]⟩⟩, by simp [intOf]; omega⟩
    · have hke : k = ds.length := by omega
      have hk1 : ¬ (k : Int) < (ds.length : Int) := by omega
      have H0 := Aside0.mk (show ((List.range ds.length).map Th.decl).any f = false by have := HK.out.2.2; rw [hke] at this; exact this)
      have HL := Aside0.mk (show k + (stThs bd 1 []).length = (things ds bd).length by unfold things; rw [hke]; simp)
      clear hke
      go_wp2_with fail
      have hle := stThs_len bd 1 []
      refine (wstmts_calls HS.out (Nat.le_trans HB.out.size (Nat.le_succ _)) _ bd (Nat.le_refl _) W2 k (.pointer none) [] A4 c4 1 1 (fun t ht => HRR.out t (by unfold things; simp [ht])) rfl HF.out HK.out.2.1.below HK.out.1 HP.out.hb HP.out.hlb rfl (by have := HZ.out; omega) (by have := HZ.out; omega)).mono ?_
      rintro _ W3 ⟨rfl, hw3, hg3⟩
      rcases bcases ((stThs bd 1 []).any f) with ha | ha
      · obtain ⟨mm, hm⟩ := outL_bad (n := k) ha
        rw [hm]
        refine ⟨rfl, ?_, (HK.out.2.1.trans hg3).out HWX.out (Nat.le_succ _)⟩
        unfold outA
        rw [if_pos (by unfold things; rw [List.any_append, ha]; simp), show things ds bd = (List.range ds.length).map Th.decl ++ stThs bd 1 [] from rfl, outL_add H0.out]
        have hk2 : 0 + ((List.range ds.length).map Th.decl).length = k := by simp; omega
        rw [hk2]
        exact hm.symm
      · rw [outL_ret ha]
        have hw4 := hw3 ha
        rw [HL.out] at hw4
        have HA := Aside0.mk (And.intro ha hg3)
        have u0 : W3.cell? ⟨W.heap.size + 1, 0, none⟩ = some (.int .i64 ((things ds bd).length : Int)) := (blk_cell hw4 0).trans rfl
        clear ha hw3 hg3 hw4
        go_wp2_with fail
        go_ret
        refine ⟨?_, (HK.out.2.1.trans HA.out.2).out HWX.out (Nat.le_succ _)⟩
        unfold outA
        rw [if_neg (by unfold things; rw [List.any_append, H0.out, HA.out.1]; simp)]
        rfl
end Go.Proofs.YtfigjpehecibeaaGreat.L
end
