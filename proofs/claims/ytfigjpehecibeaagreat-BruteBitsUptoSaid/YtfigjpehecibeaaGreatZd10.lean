/- Texts joined by a program of mine: Wv15 Wh Wd Wg. -/
import Derived.Test.YtfigjpehecibeaaGreatZd9
section
namespace Go.Proofs.YtfigjpehecibeaaGreat.L
open Go.RowKit Go.Proofs.YtfigjpehecibeaaGreatW.PrintWords Go.Proofs.YtfigjpehecibeaaGreatW.PrintLast Go.Proofs.YtfigjpehecibeaaGreatW.PrintMore Go.Proofs.YtfigjpehecibeaaGreat.Gr
set_option linter.unusedVariables false
set_option linter.unusedSimpArgs false
attribute [local go_sem] G.cell
def viol15 (ds : List S70) (x : TV) : Bool := x.is == 1 && x.s.f0 == 4 && (decide (0 ≤ findI ds x.s.f1) || hasS x.loops x.s.f1)
theorem ret_int15 {a b : Int} (h : a = b) : Ending.returned (.int .i64 a) = .returned (.int .i64 b) := by rw [h]
set_option maxHeartbeats 4000000 in
set_option maxRecDepth 100000 in
theorem viol15_calls (nm : ByteArray) (wd ln : Int) (ds : List S70) (bd : List S119) (A3 : Option Addr) (c3 : Nat) (A4 : Option Addr) (c4 : Nat) (x : TV) {A5 : Option Addr} {c5 : Nat} {A9 : Option Addr} {c9 : Nat} {A12 : Option Addr} {c12 : Nat} {A13 : Option Addr} {c13 : Nat} {A19 : Option Addr} {c19 : Nat} {A21 : Option Addr} {c21 : Nat} (w : World) (hp : ProgAt w ds bd A3 c3 A4 c4)
    (hlo : Kd.string.C w A21 x.loops.length x.loops) (hll : x.loops.length ≤ c21) (hx : x.is = 0 ∨ x.is = 1 ∨ x.is = 2) (r : Int) (hr : r = if viol15 ds x = true then 167 else 0) :
    Calls Tryz.prog 146 #[(.agg #[.string nm, .int .i64 wd, .int .i64 ln, .slice A3 ds.length c3, .slice A4 bd.length c4]), (.agg #[.int .i64 x.is, .int .i64 x.d, .int .i64 x.s.f0, .string x.s.f1, .int .i64 x.s.f2.f0, .int .u64 x.s.f2.f1, .string x.s.f2.f2, .slice A5 x.s.f2.f3.length c5, .int .i64 x.s.f3.f0, .int .u64 x.s.f3.f1, .string x.s.f3.f2, .slice A9 x.s.f3.f3.length c9, .int .u64 x.s.f4, .int .u64 x.s.f5, .slice A12 x.s.f6.length c12, .slice A13 x.s.f7.length c13, .int .i64 x.e.f0, .int .u64 x.e.f1, .string x.e.f2, .slice A19 x.e.f3.length c19, .int .i64 x.deep, .slice A21 x.loops.length c21]), .int .i64 15] w fun e w' => e = .returned (.int .i64 r) ∧ Below w.heap.size w w' := by
  have gout : ∀ {o o' : Obj} (g : G ((w.alloc o).alloc o')), Below w.heap.size w g.W := fun g => (((Below.refl _ _).alloc (Nat.le_refl _) _).alloc (by simp) _).trans (g.below.mono (by simp; omega))
  have HLO := Aside0.mk hlo
  have PAt := Aside0.mk hp
  have HXX := Aside0.mk hx
  have HR := Aside0.mk hr
  clear hlo hp hx hr
  go_enter Tryz.func146, Tryz.ntmps146
  go_upto_region 1 with (fail)
  refine wp_grown0 ?_
  intro gg
  have goutW : ∀ (g : G (gw0 gg)), Below w.heap.size w g.W := fun g => gout g
  have HBK := Aside0.mk (show ∀ g : G (gw0 gg), g.W.heap[w.heap.size + 1]? = some (.cells #[.int .i64 x.is, .int .i64 x.d, .int .i64 x.s.f0, .string x.s.f1, .int .i64 x.s.f2.f0, .int .u64 x.s.f2.f1, .string x.s.f2.f2, .slice A5 x.s.f2.f3.length c5, .int .i64 x.s.f3.f0, .int .u64 x.s.f3.f1, .string x.s.f3.f2, .slice A9 x.s.f3.f3.length c9, .int .u64 x.s.f4, .int .u64 x.s.f5, .slice A12 x.s.f6.length c12, .slice A13 x.s.f7.length c13, .int .i64 x.e.f0, .int .u64 x.e.f1, .string x.e.f2, .slice A19 x.e.f3.length c19, .int .i64 x.deep, .slice A21 x.loops.length c21] 125 (0, 0)) from fun g => (g.below.block _ (by simp [gw0])).trans (heap_alloc2_new w _ _))
  go_wp2_with (refine wpList_load_row rfl 125 (.tmp 4) rfl (w.heap.size + 1) rfl 125 #[.int .i64 x.is, .int .i64 x.d, .int .i64 x.s.f0, .string x.s.f1, .int .i64 x.s.f2.f0, .int .u64 x.s.f2.f1, .string x.s.f2.f2, .slice A5 x.s.f2.f3.length c5, .int .i64 x.s.f3.f0, .int .u64 x.s.f3.f1, .string x.s.f3.f2, .slice A9 x.s.f3.f3.length c9, .int .u64 x.s.f4, .int .u64 x.s.f5, .slice A12 x.s.f6.length c12, .slice A13 x.s.f7.length c13, .int .i64 x.e.f0, .int .u64 x.e.f1, .string x.e.f2, .slice A19 x.e.f3.length c19, .int .i64 x.deep, .slice A21 x.loops.length c21] (0, 0) _ (HBK.out gg) Tryz.underlying125 rfl (by kernel_rfl) ?_)
  refine (call_of (g := gg) (names_calls x gg.W HXX.out)).mono ?_
  rintro _ _ ⟨rfl, gg, rfl⟩
  rcases bcases (x.is == 1) with i1 | i1
  · rcases bcases (x.s.f0 == 4) with s4 | s4
    · go_wp2_with fail
      refine (call_of (g := gg) (Decl_v (PAt.out.below (goutW gg)) rfl)).mono ?_
      rintro _ _ ⟨rfl, gg, rfl⟩
      rcases Int.lt_or_le (findI ds x.s.f1) 0 with d | d
      · have d' : ¬ 0 ≤ findI ds x.s.f1 := by omega
        go_wp2_with fail
        rcases bcases (hasS x.loops x.s.f1) with hh | hh
        · refine (call_of (g := gg) (in_v hh A21 c21 gg.W (Kd.C_below HLO.out (goutW gg)) hll)).mono ?_
          rintro _ _ ⟨rfl, gg, rfl⟩
          go_wp2_with fail
          go_ret
          exact ⟨ret_int15 (by rw [HR.out]; simp [viol15, i1, s4, d', hh]), goutW _⟩
        · refine (call_of (g := gg) (in_v hh A21 c21 gg.W (Kd.C_below HLO.out (goutW gg)) hll)).mono ?_
          rintro _ _ ⟨rfl, gg, rfl⟩
          go_wp2_with fail
          go_ret
          exact ⟨ret_int15 (by rw [HR.out]; simp [viol15, i1, s4, d', hh]), goutW _⟩
      · go_wp2_with fail
        go_ret
        exact ⟨ret_int15 (by rw [HR.out]; simp [viol15, i1, s4, d]), goutW _⟩
    · go_wp2_with fail
      go_ret
      exact ⟨ret_int15 (by rw [HR.out]; simp [viol15, i1, s4]), goutW _⟩
  · go_wp2_with fail
    go_ret
    exact ⟨ret_int15 (by rw [HR.out]; simp [viol15, i1]), goutW _⟩
end Go.Proofs.YtfigjpehecibeaaGreat.L
end
section
namespace Go.Proofs.YtfigjpehecibeaaGreat.L
open Go.RowKit Go.Proofs.YtfigjpehecibeaaGreatW.PrintWords Go.Proofs.YtfigjpehecibeaaGreatW.PrintLast Go.Proofs.YtfigjpehecibeaaGreatW.PrintMore Go.Proofs.YtfigjpehecibeaaGreat.Gr
set_option linter.unusedVariables false
set_option linter.unusedSimpArgs false
attribute [local go_sem] G.cell
theorem bn {z a : Int} (h : ¬ z = a) : (z != a) = true := by simpa using h
theorem power_v {n : Int} {b : Bool} (h : pow2B n = b) (w : World) : Calls Tryz.prog 224 #[.int .u64 n] w fun e w' => e = .returned (.bool b) ∧ Below w.heap.size w w' :=
  (cadenceref16_power.calls 10 n b w ((power_eq n).trans (by rw [h]))).mono fun _ _ ⟨he, hd⟩ => ⟨he, hd.below⟩
theorem form_v {nm : ByteArray} {wd ln : Int} {ds : List S70} {bd : List S119} {A3 : Option Addr} {c3 : Nat} {A4 : Option Addr} {c4 : Nat} {w : World} (hp : ProgAt w ds bd A3 c3 A4 c4) {b : Bool} (h : formB nm wd ln ds bd = b) :
    Calls Tryz.prog 78 #[.agg #[.string nm, .int .i64 wd, .int .i64 ln, .slice A3 ds.length c3, .slice A4 bd.length c4]] w fun e w' => e = .returned (.bool b) ∧ Below w.heap.size w w' := h ▸ refForm_walk nm wd ln ds bd A3 c3 A4 c4 w hp.hd hp.hld hp.hb hp.hlb
theorem wf_v {nm : ByteArray} {wd ln : Int} {ds : List S70} {bd : List S119} {A3 : Option Addr} {c3 : Nat} {A4 : Option Addr} {c4 : Nat} {w : World} (hp : ProgAt w ds bd A3 c3 A4 c4) {b : Bool} (h : formB nm wd ln ds bd = b) :
    Calls Tryz.prog 75 #[.agg #[.string nm, .int .i64 wd, .int .i64 ln, .slice A3 ds.length c3, .slice A4 bd.length c4]] w fun e w' => e = .returned (.bool b) ∧ Below w.heap.size w w' := h ▸ Form_walk nm wd ln ds bd A3 c3 A4 c4 w hp.hd hp.hld hp.hb hp.hlb
theorem form_facts {nm : ByteArray} {wd ln : Int} {ds : List S70} {bd : List S119} (h : formB nm wd ln ds bd = true) : 0 ≤ wd ∧ 0 ≤ ln ∧ (∀ d ∈ ds, 0 ≤ d.f2) ∧ bdB bd = true := by
  unfold formB at h
  simp only [Bool.and_eq_true, decide_eq_true_eq, List.all_eq_true] at h
  obtain ⟨⟨⟨_, h1⟩, h2⟩, h3, h4⟩ := h
  refine ⟨h1, h2, fun d hd => ?_, h4⟩
  have := h3 d hd
  unfold dcB at this
  simp only [Bool.and_eq_true, decide_eq_true_eq] at this
  exact this.1.2
def headS (nm : ByteArray) (wd ln : Int) (ds : List S70) (bd : List S119) : Int × Int :=
  if formB nm wd ln ds bd = false then (1, 1) else if widthB wd = false then (2, 5) else if pow2B ln = false then (3, 163) else if 256 < ds.length then (4, 4) else (0, 0)
theorem u64_id {z : Int} (h0 : 0 ≤ z) (h1 : z < 18446744073709551616) : IntKind.u64.wrap z = z := by simp only [IntKind.wrap, IntKind.bits, IntKind.signed, Bool.false_and, Bool.false_eq_true, if_false]; omega
theorem ret_two {a b c d : Int} (h1 : a = c) (h2 : b = d) : Ending.returned (.tuple #[.int .i64 a, .int .i64 b]) = .returned (.tuple #[.int .i64 c, .int .i64 d]) := by rw [h1, h2]
set_option maxHeartbeats 1000000 in
set_option maxRecDepth 100000 in
theorem head_calls (nm : ByteArray) (wd ln : Int) (ds : List S70) (bd : List S119) (A3 : Option Addr) (c3 : Nat) (A4 : Option Addr) (c4 : Nat) (w : World) (hp : ProgAt w ds bd A3 c3 A4 c4) (hln : ln < 18446744073709551616) (r : Int × Int) (hr : r = headS nm wd ln ds bd) :
    Calls Tryz.prog 144 #[.agg #[.string nm, .int .i64 wd, .int .i64 ln, .slice A3 ds.length c3, .slice A4 bd.length c4]] w fun e w' => e = .returned (.tuple #[.int .i64 r.1, .int .i64 r.2]) ∧ Below w.heap.size w w' := by
  have gout : ∀ {o : Obj} (g : G (w.alloc o)), Below w.heap.size w g.W := fun g => ((Below.refl _ _).alloc (Nat.le_refl _) _).trans (g.below.mono (by simp))
  have PAt := Aside0.mk hp
  have HR := Aside0.mk hr
  have hlm := hp.hd.2.1
  clear hp hr
  go_enter Tryz.func144, Tryz.ntmps144
  go_upto_region 1 with (fail)
  refine wp_grown0 ?_
  intro gg
  go_wp2_with fail
  rcases bcases (formB nm wd ln ds bd) with hf | hf
  · have HF := Aside0.mk hf
    clear hf
    refine (call_of (g := gg) (form_v (PAt.out.below (gout gg)) HF.out)).mono ?_
    rintro _ _ ⟨rfl, gg, rfl⟩
    have hw : wd = 4 ∨ wd = 8 ∨ wd = 16 ∨ wd = 32 ∨ wd = 64 ∨ (¬ wd = 4 ∧ ¬ wd = 8 ∧ ¬ wd = 16 ∧ ¬ wd = 32 ∧ ¬ wd = 64) := by omega
    rcases bcases (widthB wd) with h1 | h1
    · have W1 := Aside0.mk h1
      rcases hw with h | h | h | h | h | ⟨k1, k2, k3, k4, k5⟩
      rotate_right
      · exfalso
        simp [widthB, k1, k2, k3, k4, k5] at h1
      all_goals
        clear h1
        go_wp2_with fail
        have e := Aside0.mk (u64_id (form_facts HF.out).2.1 hln)
        rw [e.out]
        rcases bcases (pow2B ln) with h2 | h2
        · have W2 := Aside0.mk h2
          clear h2
          refine (call_of (g := gg) (power_v W2.out gg.W)).mono ?_
          rintro _ _ ⟨rfl, gg, rfl⟩
          by_cases h3 : 256 < ds.length
          · have h3' : (256 : Int) < (ds.length : Int) := by omega
            go_wp2_with fail
            go_ret2
            have e2 : r = (4, 4) := by rw [HR.out]; unfold headS; rw [if_neg (by simp [HF.out]), if_neg (by simp [W1.out]), if_neg (by simp [W2.out]), if_pos h3]
            exact ⟨ret_two (by rw [e2]) (by rw [e2]), gout _⟩
          · have h3' : ¬ (256 : Int) < (ds.length : Int) := by omega
            go_wp2_with fail
            go_ret2
            have e2 : r = (0, 0) := by rw [HR.out]; unfold headS; rw [if_neg (by simp [HF.out]), if_neg (by simp [W1.out]), if_neg (by simp [W2.out]), if_neg h3]
            exact ⟨ret_two (by rw [e2]) (by rw [e2]), gout _⟩
        · have W2 := Aside0.mk h2
          clear h2
          refine (call_of (g := gg) (power_v W2.out gg.W)).mono ?_
          rintro _ _ ⟨rfl, gg, rfl⟩
          go_wp2_with fail
          go_ret2
          have e2 : r = (3, 163) := by rw [HR.out]; unfold headS; rw [if_neg (by simp [HF.out]), if_neg (by simp [W1.out]), if_pos W2.out]
          exact ⟨ret_two (by rw [e2]) (by rw [e2]), gout _⟩
    · have W1 := Aside0.mk h1
      rcases hw with h | h | h | h | h | ⟨k1, k2, k3, k4, k5⟩
      rotate_right
      · clear h1
        have b1 := bn k1
        have b2 := bn k2
        have b3 := bn k3
        have b4 := bn k4
        have b5 := bn k5
        go_wp2_with fail
        go_ret2
        have e2 : r = (2, 5) := by rw [HR.out]; unfold headS; rw [if_neg (by simp [HF.out]), if_pos W1.out]
        exact ⟨ret_two (by rw [e2]) (by rw [e2]), gout _⟩
      all_goals
        exfalso
        simp [widthB, h] at h1
  · have HF := Aside0.mk hf
    clear hf
    refine (call_of (g := gg) (form_v (PAt.out.below (gout gg)) HF.out)).mono ?_
    rintro _ _ ⟨rfl, gg, rfl⟩
    go_wp2_with fail
    go_ret2
    have e2 : r = (1, 1) := by rw [HR.out]; unfold headS; rw [if_pos HF.out]
    exact ⟨ret_two (by rw [e2]) (by rw [e2]), gout _⟩
end Go.Proofs.YtfigjpehecibeaaGreat.L
end
section
namespace Go.Proofs.YtfigjpehecibeaaGreat.L
open Go.RowKit Go.Proofs.YtfigjpehecibeaaGreatW.PrintWords Go.Proofs.YtfigjpehecibeaaGreatW.PrintLast Go.Proofs.YtfigjpehecibeaaGreatW.PrintMore Go.Proofs.YtfigjpehecibeaaGreat.Gr
set_option linter.unusedVariables false
set_option linter.unusedSimpArgs false
attribute [local go_sem] G.cell
def declS (wd : Int) (ds : List S70) : Ans := match firstN ds.length (twiceB ds) with
  | some i => ⟨5, i, 160⟩
  | none => match firstN ds.length (sizeBad ds) with
    | some i => ⟨6, i, 163⟩
    | none => match firstN ds.length (valuesBad ds) with
      | some i => ⟨7, i, 164⟩
      | none => match firstN ds.length (rangeBad wd ds) with
        | some i => ⟨8, i, 165⟩
        | none => if 4096 < wordsS ds then ⟨9, -1, 169⟩ else ⟨0, 0, 0⟩
theorem findI_at {ds : List S70} {i : Nat} (hi : i < ds.length) : (findI ds (rd_T70 ds (i : Int)).f1 < (i : Int)) ↔ twiceB ds i = true := by
  unfold twiceB findI findB
  rcases firstN_cases ds.length (fun j => eqS (rd_T70 ds (j : Int)).f1 (rd_T70 ds (i : Int)).f1) with ⟨h1, h2⟩ | ⟨m, h0, h1, h2, h3⟩
  · have := h2 i hi
    simp [eqS] at this
  · rw [h1]
    show ((m : Int) < (i : Int)) ↔ _
    have hm : m ≤ i := by
      rcases Nat.lt_or_ge i m with h | h
      · have := h3 i h
        simp [eqS] at this
      · exact h
    rcases Nat.lt_or_ge m i with h | h
    · rw [firstN_some h h2 h3]
      simp
      omega
    · rw [firstN_none fun j hj => h3 j (by omega)]
      simp
      omega
theorem declS_5 {wd : Int} {ds : List S70} {i : Nat} (hi : i < ds.length) (hf : twiceB ds i = true) (h : ∀ j, j < i → twiceB ds j = false) : declS wd ds = ⟨5, i, 160⟩ := by unfold declS; rw [firstN_some hi hf h]
theorem declS_6 {wd : Int} {ds : List S70} {i : Nat} (h5 : ∀ j, j < ds.length → twiceB ds j = false) (hi : i < ds.length) (hf : sizeBad ds i = true) (h : ∀ j, j < i → sizeBad ds j = false) : declS wd ds = ⟨6, i, 163⟩ := by unfold declS; rw [firstN_none h5, firstN_some hi hf h]
theorem declS_7 {wd : Int} {ds : List S70} {i : Nat} (h5 : ∀ j, j < ds.length → twiceB ds j = false) (h6 : ∀ j, j < ds.length → sizeBad ds j = false) (hi : i < ds.length) (hf : valuesBad ds i = true) (h : ∀ j, j < i → valuesBad ds j = false) : declS wd ds = ⟨7, i, 164⟩ := by unfold declS; rw [firstN_none h5, firstN_none h6, firstN_some hi hf h]
theorem declS_8 {wd : Int} {ds : List S70} {i : Nat} (h5 : ∀ j, j < ds.length → twiceB ds j = false) (h6 : ∀ j, j < ds.length → sizeBad ds j = false) (h7 : ∀ j, j < ds.length → valuesBad ds j = false) (hi : i < ds.length) (hf : rangeBad wd ds i = true) (h : ∀ j, j < i → rangeBad wd ds j = false) : declS wd ds = ⟨8, i, 165⟩ := by
  unfold declS; rw [firstN_none h5, firstN_none h6, firstN_none h7, firstN_some hi hf h]
theorem declS_9 {wd : Int} {ds : List S70} (h5 : ∀ j, j < ds.length → twiceB ds j = false) (h6 : ∀ j, j < ds.length → sizeBad ds j = false) (h7 : ∀ j, j < ds.length → valuesBad ds j = false) (h8 : ∀ j, j < ds.length → rangeBad wd ds j = false) : declS wd ds = if 4096 < wordsS ds then ⟨9, -1, 169⟩ else ⟨0, 0, 0⟩ := by
  unfold declS; rw [firstN_none h5, firstN_none h6, firstN_none h7, firstN_none h8]
theorem take_rd70 {l : List S70} {k : Nat} (hlt : k < l.length) : l.take (k + 1) = l.take k ++ [rd_T70 l (k : Int)] := by
  unfold rd_T70
  rw [Int.toNat_natCast, List.getD_eq_getElem?_getD, List.getElem?_eq_getElem hlt, List.take_add_one, List.getElem?_eq_getElem hlt]
  rfl
theorem wordsS_add (l : List S70) (x : S70) : wordsS (l ++ [x]) = wordsS l + if isIn x = true then wordsD x else 0 := by
  unfold wordsS
  rw [List.filter_append, List.map_append, List.sum_append]
  by_cases h : isIn x = true <;> simp [h]
theorem pow2_le {n : Int} (h : pow2B n = true) : 1 ≤ n ∧ n ≤ 256 := by
  unfold pow2B at h
  simp only [Bool.or_eq_true, beq_iff_eq] at h
  omega
theorem words_le {d : S70} (h : d.f2 = 0 ∨ pow2B d.f2 = true) : 1 ≤ wordsD d ∧ wordsD d ≤ 256 := by
  unfold wordsD
  split
  · omega
  · rcases h with h | h
    · contradiction
    · exact pow2_le h
theorem Words_calls (x : S70) (A : Option Addr) (c : Nat) (w : World) (hc : (Kd.int .u64).C w A x.f3.length x.f3) (hl : x.f3.length ≤ c) : Calls Tryz.prog 56 #[.agg #[.int .i64 x.f0, .string x.f1, .int .i64 x.f2, .slice A x.f3.length c]] w fun e w' => e = .returned (.int .i64 (wordsD x)) ∧ Below w.heap.size w w' := by
  refine (cadenceref16_Words.calls x.f0 x.f1 x.f2 A c x.f3 (wordsD x) w hc hl (by unfold cadenceref16_Words.f wordsD; split <;> rfl)).mono fun _ _ ⟨he, hd⟩ => ⟨he, ?_⟩
  first | exact hd | exact hd.below
theorem getD_mem {l : List Int} {j : Nat} (h : j < l.length) : l.getD j 0 ∈ l := by rw [List.getD_eq_getElem?_getD, List.getElem?_eq_getElem h]; exact List.getElem_mem _
theorem range_bad {wd : Int} {ds : List S70} {k j : Nat} (hj : j < (rd_T70 ds (k : Int)).f3.length) (hf : fitsB wd ((rd_T70 ds (k : Int)).f3.getD j 0) = false) : rangeBad wd ds k = true := by
  unfold rangeBad
  rw [List.any_eq_true]
  exact ⟨_, getD_mem hj, by rw [hf]; rfl⟩
theorem range_good {wd : Int} {ds : List S70} {k : Nat} (h : ∀ j, j < (rd_T70 ds (k : Int)).f3.length → fitsB wd ((rd_T70 ds (k : Int)).f3.getD j 0) = true) : rangeBad wd ds k = false := by
  unfold rangeBad
  rw [List.any_eq_false]
  intro v hv
  obtain ⟨j, hj, rfl⟩ := List.getElem_of_mem hv
  have := h j hj
  rw [List.getD_eq_getElem?_getD, List.getElem?_eq_getElem hj] at this
  rw [show (rd_T70 ds (k : Int)).f3[j] = (some (rd_T70 ds (k : Int)).f3[j]).getD 0 from rfl, this]
  simp
theorem size_good {ds : List S70} {k : Nat} (h : sizeBad ds k = false) : (rd_T70 ds (k : Int)).f2 = 0 ∨ pow2B (rd_T70 ds (k : Int)).f2 = true := by
  unfold sizeBad at h
  by_cases z : (rd_T70 ds (k : Int)).f2 = 0
  · exact .inl z
  · right
    have e := bn z
    rw [e] at h
    simpa using h
theorem ret_three {a b c d e f : Int} (h1 : a = d) (h2 : b = e) (h3 : c = f) : Ending.returned (.tuple #[.int .i64 a, .int .i64 b, .int .i64 c]) = .returned (.tuple #[.int .i64 d, .int .i64 e, .int .i64 f]) := by rw [h1, h2, h3]
set_option maxHeartbeats 4000000 in
set_option maxRecDepth 100000 in
theorem decls_calls (nm : ByteArray) (wd ln : Int) (ds : List S70) (bd : List S119) (A3 : Option Addr) (c3 : Nat) (A4 : Option Addr) (c4 : Nat) (w : World) (hp : ProgAt w ds bd A3 c3 A4 c4) (hw : 0 ≤ wd) (hd : ∀ d ∈ ds, 0 ≤ d.f2 ∧ d.f2 < 18446744073709551616 ∧ ∀ v ∈ d.f3, 0 ≤ v) (hl : ds.length ≤ 256)
    (r : Ans) (hr : r = declS wd ds) :
    Calls Tryz.prog 145 #[(.agg #[.string nm, .int .i64 wd, .int .i64 ln, .slice A3 ds.length c3, .slice A4 bd.length c4])] w fun e w' => e = .returned (.tuple #[.int .i64 r.c, .int .i64 r.at', .int .i64 r.e]) ∧ Below w.heap.size w w' := by
  have gout : ∀ {o : Obj} (g : G (w.alloc o)), Below w.heap.size w g.W := fun g => ((Below.refl _ _).alloc (Nat.le_refl _) _).trans (g.below.mono (by simp))
  have PAt := Aside0.mk hp
  have HR := Aside0.mk hr
  have HD := Aside0.mk hd
  have HL := Aside0.mk hl
  have hlm := hp.hd.2.1
  clear hp hr hd hl
  go_enter Tryz.func145, Tryz.ntmps145
  go_upto_region 1 with (fail)
  refine wp_grown0 ?_
  intro gg
  have goutW : ∀ (g : G (gw0 gg)), Below w.heap.size w g.W := fun g => gout g
  go_wp2_with fail
  go_loopw [5] (fun i W => ∃ (k : Nat) (g : G (gw0 gg)), i = .int .i64 k ∧ W = g.W ∧ k ≤ ds.length ∧ Aside0 (∀ j, j < k → twiceB ds j = false)) (fun i _ => ds.length - (intOf i).toNat)
  case atStart => exact ⟨0, gg, rfl, rfl, Nat.zero_le _, ⟨fun j hj => absurd hj (Nat.not_lt_zero _)⟩⟩
  case round =>
    obtain ⟨k, gx, rfl, rfl, hk, HK5⟩ := hrel
    by_cases hlt : k < ds.length
    · obtain ⟨adr, A9d, c9d, e1, q0, q1, q2, q3, l9, g9⟩ := at_T70 PAt.out.hd (k : Int) (Int.natCast_nonneg _) (by omega)
      cases e1
      rw [Int.toNat_natCast] at q0 q1 q2 q3
      have r0 : ∀ g' : G (gw0 gg), g'.W.cell? (adr.add (k * 4)) = some (.int .i64 (rd_T70 ds (k : Int)).f0) := fun g' => held_in (goutW g') q0
      have r1 : ∀ g' : G (gw0 gg), g'.W.cell? ⟨(adr.add (k * 4)).block, (adr.add (k * 4)).off + 1, none⟩ = some (.string (rd_T70 ds (k : Int)).f1) := fun g' => held_in (goutW g') q1
      have r2 : ∀ g' : G (gw0 gg), g'.W.cell? ⟨(adr.add (k * 4)).block, (adr.add (k * 4)).off + 2, none⟩ = some (.int .i64 (rd_T70 ds (k : Int)).f2) := fun g' => held_in (goutW g') q2
      have r3 : ∀ g' : G (gw0 gg), g'.W.cell? ⟨(adr.add (k * 4)).block, (adr.add (k * 4)).off + 3, none⟩ = some (.slice A9d (rd_T70 ds (k : Int)).f3.length c9d) := fun g' => held_in (goutW g') q3
      have VAL := Aside0.mk (And.intro l9 g9)
      clear q0 q1 q2 q3 l9 g9
      have hi1 : (k : Int) < (ds.length : Int) := by omega
      have MEM := Aside0.mk (rd44_mem hlt)
      have TW := Aside0.mk (findI_at hlt)
      rcases bcases (twiceB ds k) with hy | hy
      · have d : findI ds (rd_T70 ds (k : Int)).f1 < (k : Int) := TW.out.2 hy
        have HY := Aside0.mk hy
        clear hy
        go_upto_region 4 with (fail)
        refine wp_region_of (g := gx) (by kernel_rfl) (by kernel_rfl) ?_
        repeat (go_big_quiet_step (fail))
        go_big_quiet_step (first | (go_at_call 225; exact call_of (Decl_v (PAt.out.below (goutW _)) rfl)))
        repeat (go_big_quiet_step (fail))
        refine wpQuiet_nil ?_
        rintro _ ⟨gg2, rfl⟩
        go_wp2_with fail
        go_ret3
        have e2 : r = _ := HR.out.trans (declS_5 hlt HY.out HK5.out)
        exact ⟨ret_three (by rw [e2]) (by rw [e2]) (by rw [e2]), goutW _⟩
      · have d : ¬ findI ds (rd_T70 ds (k : Int)).f1 < (k : Int) := fun h => by rw [TW.out.1 h] at hy; cases hy
        have HY := Aside0.mk hy
        clear hy
        go_upto_region 4 with (fail)
        refine wp_region_of (g := gx) (by kernel_rfl) (by kernel_rfl) ?_
        repeat (go_big_quiet_step (fail))
        go_big_quiet_step (first | (go_at_call 225; exact call_of (Decl_v (PAt.out.below (goutW _)) rfl)))
        repeat (go_big_quiet_step (fail))
        refine wpQuiet_nil ?_
        rintro _ ⟨gg2, rfl⟩
        go_wp2_with fail
        exact ⟨⟨k + 1, gg2, by go_num, rfl, by omega, ⟨fun j hj => (Decidable.em (j = k)).elim (fun h => h ▸ HY.out) (fun h => HK5.out j (by omega))⟩⟩, by simp [intOf]; omega⟩
    · have HK5' := Aside0.mk (show ∀ j, j < ds.length → twiceB ds j = false from fun j hj => HK5.out j (by omega))
      have hge : ¬ (k : Int) < (ds.length : Int) := by omega
      go_wp2_with fail
      go_loopw [6] (fun i W => ∃ (k : Nat) (g : G (gw0 gg)), i = .int .i64 k ∧ W = g.W ∧ k ≤ ds.length ∧ Aside0 (∀ j, j < k → sizeBad ds j = false)) (fun i _ => ds.length - (intOf i).toNat)
      case atStart => exact ⟨0, gx, rfl, rfl, Nat.zero_le _, ⟨fun j hj => absurd hj (Nat.not_lt_zero _)⟩⟩
      case round =>
        obtain ⟨k, gx, rfl, rfl, hk, HK6⟩ := hrel
        by_cases hlt : k < ds.length
        · obtain ⟨adr, A9d, c9d, e1, q0, q1, q2, q3, l9, g9⟩ := at_T70 PAt.out.hd (k : Int) (Int.natCast_nonneg _) (by omega)
          cases e1
          rw [Int.toNat_natCast] at q0 q1 q2 q3
          have r0 : ∀ g' : G (gw0 gg), g'.W.cell? (adr.add (k * 4)) = some (.int .i64 (rd_T70 ds (k : Int)).f0) := fun g' => held_in (goutW g') q0
          have r1 : ∀ g' : G (gw0 gg), g'.W.cell? ⟨(adr.add (k * 4)).block, (adr.add (k * 4)).off + 1, none⟩ = some (.string (rd_T70 ds (k : Int)).f1) := fun g' => held_in (goutW g') q1
          have r2 : ∀ g' : G (gw0 gg), g'.W.cell? ⟨(adr.add (k * 4)).block, (adr.add (k * 4)).off + 2, none⟩ = some (.int .i64 (rd_T70 ds (k : Int)).f2) := fun g' => held_in (goutW g') q2
          have r3 : ∀ g' : G (gw0 gg), g'.W.cell? ⟨(adr.add (k * 4)).block, (adr.add (k * 4)).off + 3, none⟩ = some (.slice A9d (rd_T70 ds (k : Int)).f3.length c9d) := fun g' => held_in (goutW g') q3
          have VAL := Aside0.mk (And.intro l9 g9)
          clear q0 q1 q2 q3 l9 g9
          have hi1 : (k : Int) < (ds.length : Int) := by omega
          have MEM := Aside0.mk (rd44_mem hlt)
          by_cases z : (rd_T70 ds (k : Int)).f2 = 0
          · have HY := Aside0.mk (show sizeBad ds k = false by simp [sizeBad, z])
            go_wp2_with fail
            exact ⟨⟨k + 1, gx, by go_num, rfl, by omega, ⟨fun j hj => (Decidable.em (j = k)).elim (fun h => h ▸ HY.out) (fun h => HK6.out j (by omega))⟩⟩, by simp [intOf]; omega⟩
          · have bz := bn z
            have e := Aside0.mk (u64_id (HD.out _ MEM.out).1 (HD.out _ MEM.out).2.1)
            go_wp2_with fail
            rw [e.out]
            rcases bcases (pow2B (rd_T70 ds (k : Int)).f2) with h2 | h2
            · have HY := Aside0.mk (show sizeBad ds k = false by simp [sizeBad, h2])
              refine (call_of (g := gx) (power_v h2 gx.W)).mono ?_
              rintro _ _ ⟨rfl, gg2, rfl⟩
              clear h2
              go_wp2_with fail
              exact ⟨⟨k + 1, gg2, by go_num, rfl, by omega, ⟨fun j hj => (Decidable.em (j = k)).elim (fun h => h ▸ HY.out) (fun h => HK6.out j (by omega))⟩⟩, by simp [intOf]; omega⟩
            · have HY := Aside0.mk (show sizeBad ds k = true by simp [sizeBad, h2, z])
              refine (call_of (g := gx) (power_v h2 gx.W)).mono ?_
              rintro _ _ ⟨rfl, gg2, rfl⟩
              clear h2
              go_wp2_with fail
              go_ret3
              have e2 : r = _ := HR.out.trans (declS_6 HK5'.out hlt HY.out HK6.out)
              exact ⟨ret_three (by rw [e2]) (by rw [e2]) (by rw [e2]), goutW _⟩
        · have HK6' := Aside0.mk (show ∀ j, j < ds.length → sizeBad ds j = false from fun j hj => HK6.out j (by omega))
          have hge : ¬ (k : Int) < (ds.length : Int) := by omega
          go_wp2_with fail
          go_loopw [7] (fun i W => ∃ (k : Nat) (g : G (gw0 gg)), i = .int .i64 k ∧ W = g.W ∧ k ≤ ds.length ∧ Aside0 (∀ j, j < k → valuesBad ds j = false)) (fun i _ => ds.length - (intOf i).toNat)
          case atStart => exact ⟨0, gx, rfl, rfl, Nat.zero_le _, ⟨fun j hj => absurd hj (Nat.not_lt_zero _)⟩⟩
          case round =>
            obtain ⟨k, gx, rfl, rfl, hk, HK7⟩ := hrel
            by_cases hlt : k < ds.length
            · obtain ⟨adr, A9d, c9d, e1, q0, q1, q2, q3, l9, g9⟩ := at_T70 PAt.out.hd (k : Int) (Int.natCast_nonneg _) (by omega)
              cases e1
              rw [Int.toNat_natCast] at q0 q1 q2 q3
              have r0 : ∀ g' : G (gw0 gg), g'.W.cell? (adr.add (k * 4)) = some (.int .i64 (rd_T70 ds (k : Int)).f0) := fun g' => held_in (goutW g') q0
              have r1 : ∀ g' : G (gw0 gg), g'.W.cell? ⟨(adr.add (k * 4)).block, (adr.add (k * 4)).off + 1, none⟩ = some (.string (rd_T70 ds (k : Int)).f1) := fun g' => held_in (goutW g') q1
              have r2 : ∀ g' : G (gw0 gg), g'.W.cell? ⟨(adr.add (k * 4)).block, (adr.add (k * 4)).off + 2, none⟩ = some (.int .i64 (rd_T70 ds (k : Int)).f2) := fun g' => held_in (goutW g') q2
              have r3 : ∀ g' : G (gw0 gg), g'.W.cell? ⟨(adr.add (k * 4)).block, (adr.add (k * 4)).off + 3, none⟩ = some (.slice A9d (rd_T70 ds (k : Int)).f3.length c9d) := fun g' => held_in (goutW g') q3
              have VAL := Aside0.mk (And.intro l9 g9)
              clear q0 q1 q2 q3 l9 g9
              have hi1 : (k : Int) < (ds.length : Int) := by omega
              have MEM := Aside0.mk (rd44_mem hlt)
              by_cases z : (rd_T70 ds (k : Int)).f0 = 3
              · by_cases y : ((rd_T70 ds (k : Int)).f3.length : Int) = (rd_T70 ds (k : Int)).f2
                · have HY := Aside0.mk (show valuesBad ds k = false by simp [valuesBad, y])
                  have by' : (((rd_T70 ds (k : Int)).f3.length : Int) != (rd_T70 ds (k : Int)).f2) = false := by simpa using y
                  clear y
                  go_upto_region 14 with (fail)
                  refine wp_region_of (g := gx) (by kernel_rfl) (by kernel_rfl) ?_
                  repeat (go_big_quiet_step (fail))
                  refine wpQuiet_nil ?_
                  rintro _ ⟨gg2, rfl⟩
                  go_wp2_with fail
                  exact ⟨⟨k + 1, gg2, by go_num, rfl, by omega, ⟨fun j hj => (Decidable.em (j = k)).elim (fun h => h ▸ HY.out) (fun h => HK7.out j (by omega))⟩⟩, by simp [intOf]; omega⟩
                · have HY := Aside0.mk (show valuesBad ds k = true by simp [valuesBad, y, z])
                  have by' := bn y
                  clear y
                  go_upto_region 14 with (fail)
                  refine wp_region_of (g := gx) (by kernel_rfl) (by kernel_rfl) ?_
                  repeat (go_big_quiet_step (fail))
                  refine wpQuiet_nil ?_
                  rintro _ ⟨gg2, rfl⟩
                  go_wp2_with fail
                  go_ret3
                  have e2 : r = _ := HR.out.trans (declS_7 HK5'.out HK6'.out hlt HY.out HK7.out)
                  exact ⟨ret_three (by rw [e2]) (by rw [e2]) (by rw [e2]), goutW _⟩
              · have HY := Aside0.mk (show valuesBad ds k = false by simp [valuesBad, z])
                have bz := bf z
                go_upto_region 14 with (fail)
                refine wp_region_of (g := gx) (by kernel_rfl) (by kernel_rfl) ?_
                repeat (go_big_quiet_step (fail))
                refine wpQuiet_nil ?_
                rintro _ ⟨gg2, rfl⟩
                go_wp2_with fail
                exact ⟨⟨k + 1, gg2, by go_num, rfl, by omega, ⟨fun j hj => (Decidable.em (j = k)).elim (fun h => h ▸ HY.out) (fun h => HK7.out j (by omega))⟩⟩, by simp [intOf]; omega⟩
            · have HK7' := Aside0.mk (show ∀ j, j < ds.length → valuesBad ds j = false from fun j hj => HK7.out j (by omega))
              have hge : ¬ (k : Int) < (ds.length : Int) := by omega
              go_wp2_with fail
              go_loopw [9, 8] (fun i n W => ∃ (k : Nat) (m : Int) (g : G (gw0 gg)), i = .int .i64 k ∧ n = .int .i64 m ∧ W = g.W ∧ k ≤ ds.length ∧ Aside0 ((∀ j, j < k → rangeBad wd ds j = false) ∧ m = wordsS (ds.take k) ∧ 0 ≤ m ∧ m ≤ 256 * (k : Int))) (fun i _ _ => ds.length - (intOf i).toNat)
              case atStart => exact ⟨0, 0, gx, rfl, rfl, rfl, Nat.zero_le _, ⟨fun j hj => absurd hj (Nat.not_lt_zero _), by simp [wordsS], by omega, by omega⟩⟩
              case round =>
                obtain ⟨k, m, gx, rfl, rfl, rfl, hk, HK8⟩ := hrel
                by_cases hlt : k < ds.length
                · obtain ⟨adr, A9d, c9d, e1, q0, q1, q2, q3, l9, g9⟩ := at_T70 PAt.out.hd (k : Int) (Int.natCast_nonneg _) (by omega)
                  cases e1
                  rw [Int.toNat_natCast] at q0 q1 q2 q3
                  have r0 : ∀ g' : G (gw0 gg), g'.W.cell? (adr.add (k * 4)) = some (.int .i64 (rd_T70 ds (k : Int)).f0) := fun g' => held_in (goutW g') q0
                  have r1 : ∀ g' : G (gw0 gg), g'.W.cell? ⟨(adr.add (k * 4)).block, (adr.add (k * 4)).off + 1, none⟩ = some (.string (rd_T70 ds (k : Int)).f1) := fun g' => held_in (goutW g') q1
                  have r2 : ∀ g' : G (gw0 gg), g'.W.cell? ⟨(adr.add (k * 4)).block, (adr.add (k * 4)).off + 2, none⟩ = some (.int .i64 (rd_T70 ds (k : Int)).f2) := fun g' => held_in (goutW g') q2
                  have r3 : ∀ g' : G (gw0 gg), g'.W.cell? ⟨(adr.add (k * 4)).block, (adr.add (k * 4)).off + 3, none⟩ = some (.slice A9d (rd_T70 ds (k : Int)).f3.length c9d) := fun g' => held_in (goutW g') q3
                  have VAL := Aside0.mk (And.intro l9 g9)
                  clear q0 q1 q2 q3 l9 g9
                  have hi1 : (k : Int) < (ds.length : Int) := by omega
                  have MEM := Aside0.mk (rd44_mem hlt)
                  replace r0 := r0 gx
                  replace r1 := r1 gx
                  replace r2 := r2 gx
                  replace r3 := r3 gx
                  have hlv := VAL.out.2.2.1
                  have hsz : w.heap.size < gx.W.heap.size := Nat.lt_of_lt_of_le (by simp [gw0]) gx.below.size
                  go_upto_region 21 with (fail)
                  refine wp_grown0 ?_
                  intro g2
                  have goutX : ∀ (g : G (gw0 g2)), Below (gw0 gg).heap.size (gw0 gg) g.W := fun g => (gx.below.alloc gx.below.size _).trans (g.below.mono (Nat.le_trans gx.below.size (by simp [gw0])))
                  have goutI : ∀ (g : G (gw0 g2)), Below w.heap.size w g.W := fun g => goutW (mkG (goutX g))
                  go_wp2_with fail
                  go_loopw [11] (fun i W => ∃ (j : Nat) (g : G (gw0 g2)), i = .int .i64 j ∧ W = g.W ∧ j ≤ (rd_T70 ds (k : Int)).f3.length ∧ Aside0 (∀ i, i < j → fitsB wd ((rd_T70 ds (k : Int)).f3.getD i 0) = true)) (fun i _ => (rd_T70 ds (k : Int)).f3.length - (intOf i).toNat)
                  case atStart => exact ⟨0, g2, rfl, rfl, Nat.zero_le _, ⟨fun j hj => absurd hj (Nat.not_lt_zero _)⟩⟩
                  case round =>
                    obtain ⟨j, g3, rfl, rfl, hj, HK9⟩ := hrel
                    by_cases hjl : j < (rd_T70 ds (k : Int)).f3.length
                    · have hv9 := VAL.out.2.2.1
                      obtain ⟨adv, cs9, eA, ec9, eK9, hc9⟩ := Kd.C_get (d := Kd.int .u64) VAL.out.2 (0 : Int) (j : Int) (Int.natCast_nonneg _) (by omega)
                      cases eA
                      have eK9' : cs9 = [.int .u64 ((rd_T70 ds (k : Int)).f3.getD (j : Int).toNat 0)] := eK9
                      subst eK9'
                      have s0 := hc9 0 _ rfl
                      rw [Int.toNat_natCast] at s0
                      clear hc9 eK9 ec9
                      have t0 : ∀ g' : G (gw0 g2), g'.W.cell? (adv.add (j * 1 + 0)) = some (.int .u64 ((rd_T70 ds (k : Int)).f3.getD j 0)) := fun g' => held_in (goutI g') s0
                      simp only [Nat.mul_one, Nat.add_zero] at t0
                      clear s0
                      have hj1 : (j : Int) < ((rd_T70 ds (k : Int)).f3.length : Int) := by omega
                      have hv0 := Aside0.mk (show 0 ≤ (rd_T70 ds (k : Int)).f3.getD j 0 from (HD.out _ MEM.out).2.2 _ (getD_mem hjl))
                      obtain ⟨z, hz⟩ : ∃ z, (rd_T70 ds (k : Int)).f3.getD j 0 = z := ⟨_, rfl⟩
                      rw [hz] at hv0 t0
                      have HZ := Aside0.mk hz
                      clear hz
                      rcases bcases (fitsB wd z) with hf | hf
                      · have HF := Aside0.mk hf
                        clear hf
                        go_upto_region 24 with (fail)
                        refine wp_region_of (g := g3) (by kernel_rfl) (by kernel_rfl) ?_
                        repeat (go_big_quiet_step (fail))
                        go_big_quiet_step (first | (go_at_call 226; exact call_of (fits_v HF.out hw hv0.out _)))
                        repeat (go_big_quiet_step (fail))
                        refine wpQuiet_nil ?_
                        rintro _ ⟨g4, rfl⟩
                        go_wp2_with fail
                        exact ⟨⟨j + 1, g4, by go_num, rfl, by omega, ⟨fun i hi => (Decidable.em (i = j)).elim (fun h => by rw [h, HZ.out]; exact HF.out) (fun h => HK9.out i (by omega))⟩⟩, by simp [intOf]; omega⟩
                      · have HF := Aside0.mk hf
                        clear hf
                        go_upto_region 24 with (fail)
                        refine wp_region_of (g := g3) (by kernel_rfl) (by kernel_rfl) ?_
                        repeat (go_big_quiet_step (fail))
                        go_big_quiet_step (first | (go_at_call 226; exact call_of (fits_v HF.out hw hv0.out _)))
                        repeat (go_big_quiet_step (fail))
                        refine wpQuiet_nil ?_
                        rintro _ ⟨g4, rfl⟩
                        go_wp2_with fail
                        go_ret3
                        have e2 : r = _ := HR.out.trans (declS_8 HK5'.out HK6'.out HK7'.out hlt (range_bad hjl (by rw [HZ.out]; exact HF.out)) HK8.out.1)
                        exact ⟨ret_three (by rw [e2]) (by rw [e2]) (by rw [e2]), goutI _⟩
                    · have HY := Aside0.mk (range_good (wd := wd) (ds := ds) (k := k) fun i hi => HK9.out i (by omega))
                      have hgj : ¬ (j : Int) < ((rd_T70 ds (k : Int)).f3.length : Int) := by omega
                      have T := Aside0.mk (congrArg wordsS (take_rd70 hlt))
                      have WL := Aside0.mk (words_le (d := (rd_T70 ds (k : Int))) (size_good (HK6'.out k hlt)))
                      by_cases f1 : (rd_T70 ds (k : Int)).f0 = 1
                      · have b1 : ((rd_T70 ds (k : Int)).f0 == 1) = true := by simp [f1]
                        have F1 := Aside0.mk f1
                        clear f1
                        obtain ⟨m', hm'⟩ : ∃ z, z = m + wordsD (rd_T70 ds (k : Int)) := ⟨_, rfl⟩
                        have HM' := Aside0.mk (show m' = wordsS (ds.take (k + 1)) ∧ 0 ≤ m' ∧ m' ≤ 256 * ((k + 1 : Nat) : Int) by have h1 := T.out; have h2 := HK8.out.2; have h3 := WL.out; have h4 := HL.out; rw [wordsS_add, if_pos (by simp [isIn, F1.out])] at h1; rw [hm', h1]; omega)
                        have HM2 := Aside0.mk (show wrap64 (m + wordsD (rd_T70 ds (k : Int))) = m' by rw [hm']; exact wrap_id (by have h2 := HK8.out.2; have h3 := WL.out; omega) (by have h2 := HK8.out.2; have h3 := WL.out; have h4 := HL.out; omega))
                        clear hm'
                        go_wp2_with fail
                        refine (call_of (g := g3) (Words_calls (rd_T70 ds (k : Int)) A9d c9d g3.W (Kd.C_below VAL.out.2 (goutI g3)) VAL.out.1)).mono ?_
                        rintro _ _ ⟨rfl, g5, rfl⟩
                        go_wp2_with fail
                        refine ⟨⟨k + 1, m', mkG (goutX g5), by go_num, (by rw [HM2.out]), rfl, by omega, ⟨fun i hi => (Decidable.em (i = k)).elim (fun h => h ▸ HY.out) (fun h => HK8.out.1 i (by omega)), HM'.out⟩⟩, by simp [intOf]; omega⟩
                      · have b1 := bf f1
                        by_cases f2 : (rd_T70 ds (k : Int)).f0 = 2
                        · have b2 : ((rd_T70 ds (k : Int)).f0 == 2) = true := by simp [f2]
                          have F2 := Aside0.mk f2
                          clear f2
                          obtain ⟨m', hm'⟩ : ∃ z, z = m + wordsD (rd_T70 ds (k : Int)) := ⟨_, rfl⟩
                          have HM' := Aside0.mk (show m' = wordsS (ds.take (k + 1)) ∧ 0 ≤ m' ∧ m' ≤ 256 * ((k + 1 : Nat) : Int) by have h1 := T.out; have h2 := HK8.out.2; have h3 := WL.out; have h4 := HL.out; rw [wordsS_add, if_pos (by simp [isIn, F2.out])] at h1; rw [hm', h1]; omega)
                          have HM2 := Aside0.mk (show wrap64 (m + wordsD (rd_T70 ds (k : Int))) = m' by rw [hm']; exact wrap_id (by have h2 := HK8.out.2; have h3 := WL.out; omega) (by have h2 := HK8.out.2; have h3 := WL.out; have h4 := HL.out; omega))
                          clear hm'
                          go_wp2_with fail
                          refine (call_of (g := g3) (Words_calls (rd_T70 ds (k : Int)) A9d c9d g3.W (Kd.C_below VAL.out.2 (goutI g3)) VAL.out.1)).mono ?_
                          rintro _ _ ⟨rfl, g5, rfl⟩
                          go_wp2_with fail
                          refine ⟨⟨k + 1, m', mkG (goutX g5), by go_num, (by rw [HM2.out]), rfl, by omega, ⟨fun i hi => (Decidable.em (i = k)).elim (fun h => h ▸ HY.out) (fun h => HK8.out.1 i (by omega)), HM'.out⟩⟩, by simp [intOf]; omega⟩
                        · have b2 := bf f2
                          obtain ⟨m', hm'⟩ : ∃ z, z = m := ⟨_, rfl⟩
                          have HM' := Aside0.mk (show m' = wordsS (ds.take (k + 1)) ∧ 0 ≤ m' ∧ m' ≤ 256 * ((k + 1 : Nat) : Int) by have h1 := T.out; have h2 := HK8.out.2; rw [wordsS_add, if_neg (by simp [isIn, f1, f2])] at h1; rw [hm', h1]; omega)
                          have HM2 := Aside0.mk hm'
                          clear hm'
                          go_wp2_with fail
                          refine ⟨⟨k + 1, m', mkG (goutX g3), by go_num, (by rw [HM2.out]), rfl, by omega, ⟨fun i hi => (Decidable.em (i = k)).elim (fun h => h ▸ HY.out) (fun h => HK8.out.1 i (by omega)), HM'.out⟩⟩, by simp [intOf]; omega⟩
                · have hge : ¬ (k : Int) < (ds.length : Int) := by omega
                  have E9 := Aside0.mk (declS_9 (wd := wd) HK5'.out HK6'.out HK7'.out (fun j hj => HK8.out.1 j (by omega)))
                  have M9 := Aside0.mk (show m = wordsS ds by have h := HK8.out.2.1; rw [show k = ds.length by omega, List.take_length] at h; exact h)
                  by_cases h9 : 4096 < m
                  · have H9 := Aside0.mk h9
                    go_wp2_with fail
                    go_ret3
                    have e2 : r = ⟨9, -1, 169⟩ := by rw [HR.out, E9.out, if_pos (by rw [← M9.out]; have := H9.out; omega)]
                    exact ⟨ret_three (by rw [e2]) (by rw [e2]) (by rw [e2]), goutW _⟩
                  · have H9 := Aside0.mk h9
                    go_wp2_with fail
                    go_ret3
                    have e2 : r = ⟨0, 0, 0⟩ := by rw [HR.out, E9.out, if_neg (by rw [← M9.out]; have := H9.out; omega)]
                    exact ⟨ret_three (by rw [e2]) (by rw [e2]) (by rw [e2]), goutW _⟩
end Go.Proofs.YtfigjpehecibeaaGreat.L
end
section
namespace Go.Proofs.YtfigjpehecibeaaGreat.L
open Go.RowKit Go.Proofs.YtfigjpehecibeaaGreatW.PrintWords Go.Proofs.YtfigjpehecibeaaGreatW.PrintLast Go.Proofs.YtfigjpehecibeaaGreatW.PrintMore Go.Proofs.YtfigjpehecibeaaGreat.Gr
set_option linter.unusedVariables false
set_option linter.unusedSimpArgs false
def goodTh : Th → Prop
  | .decl _ => True
  | .stmt s _ _ => 0 ≤ s.f5 ∧ s.f5 < 18446744073709551616
  | .expr e _ => 0 ≤ e.f1
theorem okU_b {n : Int} (h : Ot.okU n) : 0 ≤ n ∧ n < 18446744073709551616 := by
  unfold Ot.okU at h
  simp [Lit.wf, IntKind.min, IntKind.max, IntKind.bits, IntKind.signed] at h
  omega
mutual
theorem good_exTh : ∀ (e : S116) (lo : List ByteArray), Ot.goodE e → ∀ t ∈ exTh e lo, goodTh t
  | ⟨a, b, s, l⟩, lo, h, t, ht => by
    rw [Ot.goodE] at h
    rw [exTh] at ht
    rcases List.mem_cons.1 ht with rfl | ht
    · exact (okU_b h.2.1).1
    · exact good_exThs l lo h.2.2.2.2 t ht
theorem good_exThs : ∀ (l : List S116) (lo : List ByteArray), Ot.goodEs l → ∀ t ∈ exThs l lo, goodTh t
  | [], _, _, t, ht => by rw [exThs] at ht; cases ht
  | x :: r, lo, h, t, ht => by
    rw [Ot.goodEs] at h
    rw [exThs] at ht
    rcases List.mem_append.1 ht with ht | ht
    · exact good_exTh x lo h.1 t ht
    · exact good_exThs r lo h.2 t ht
end
mutual
theorem good_stTh : ∀ (x : S119) (d : Nat) (lo : List ByteArray), Ot.goodT x → ∀ t ∈ stTh x d lo, goodTh t
  | ⟨k, nm, e, f, l, h, th, el⟩, d, lo, hg, t, ht => by
    rw [Ot.goodT] at hg
    obtain ⟨_, _, h1, h2, _, h3, _, _, h4, h5⟩ := hg
    rw [stTh] at ht
    rcases List.mem_cons.1 ht with rfl | ht
    · exact okU_b h3
    · rcases List.mem_append.1 ht with ht | ht
      · rcases List.mem_append.1 ht with ht | ht
        · split at ht
          · exact good_exTh e lo h1 t ht
          · cases ht
        · split at ht
          · exact good_exTh f lo h2 t ht
          · cases ht
      · rcases List.mem_append.1 ht with ht | ht
        · exact good_stThs th _ _ h4 t ht
        · exact good_stThs el _ _ h5 t ht
theorem good_stThs : ∀ (l : List S119) (d : Nat) (lo : List ByteArray), Ot.goodTs l → ∀ t ∈ stThs l d lo, goodTh t
  | [], _, _, _, t, ht => by rw [stThs] at ht; cases ht
  | x :: r, d, lo, h, t, ht => by
    rw [Ot.goodTs] at h
    rw [stThs] at ht
    rcases List.mem_append.1 ht with ht | ht
    · exact good_stTh x d lo h.1 t ht
    · exact good_stThs r d lo h.2 t ht
end
theorem good_things {ds : List S70} {bd : List S119} (h : ∀ t ∈ bd, Ot.goodT t) : ∀ t ∈ things ds bd, goodTh t := by
  intro t ht
  unfold things at ht
  rcases List.mem_append.1 ht with ht | ht
  · obtain ⟨i, _, rfl⟩ := List.mem_map.1 ht
    trivial
  · exact good_stThs bd 1 [] ((Ot.goodTs_iff bd).2 h) t ht
theorem useV_some {t : Th} {s : ByteArray} (h : useB t = some s) : useV (toTV t) = (s, true) := by
  cases t with
  | decl i => simp [useB] at h
  | stmt x d lo =>
    simp only [useB] at h
    split at h
    · rename_i hk
      injection h with h
      subst h
      simp [useV, toTV, hk]
    · cases h
  | expr e lo =>
    simp only [useB] at h
    split at h
    · rename_i hk
      injection h with h
      subst h
      simp [useV, toTV, hk]
    · cases h
theorem useV_none {t : Th} (h : useB t = none) : (useV (toTV t)).2 = false := by
  cases t with
  | decl i => rfl
  | stmt x d lo =>
    simp only [useB] at h
    split at h
    · cases h
    · rename_i hk
      simp [useV, toTV, hk]
  | expr e lo =>
    simp only [useB] at h
    split at h
    · cases h
    · rename_i hk
      simp [useV, toTV, hk]
theorem loops_toTV (t : Th) : (toTV t).loops = loopsOf t := by cases t <;> rfl
theorem findI_lt {ds : List S70} {s : ByteArray} : decide (findI ds s < 0) = (findB ds s).isNone := by
  unfold findI
  cases findB ds s with
  | none => simp
  | some i => simp
theorem findI_ge {ds : List S70} {s : ByteArray} : decide (0 ≤ findI ds s) = (findB ds s).isSome := by
  unfold findI
  cases findB ds s with
  | none => simp
  | some i => simp
theorem findB_lt {ds : List S70} {s : ByteArray} {i : Nat} (h : findB ds s = some i) : i < ds.length := by
  unfold findB at h
  rcases firstN_cases ds.length (fun j => eqS (rd_T70 ds (j : Int)).f1 s) with ⟨h1, _⟩ | ⟨m, h0, h1, _, _⟩
  · rw [h1] at h; cases h
  · rw [h1] at h; injection h with h; omega
theorem viol10_eq (t : Th) : viol10 (toTV t) = bad10 t := by
  cases t with
  | decl i => rfl
  | stmt x d lo => simp only [viol10, toTV, bad10]; congr 1; exact propext ⟨fun h => by omega, fun h => by omega⟩
  | expr e lo => simp only [viol10, toTV, bad10]; congr 1; exact propext ⟨fun h => by omega, fun h => by omega⟩
theorem viol11_eq (ds : List S70) (t : Th) : viol11 ds (toTV t) = bad11 ds t := by
  unfold viol11 bad11
  cases h : useB t with
  | none => rw [useV_none h]; rfl
  | some s => rw [useV_some h, loops_toTV, findI_lt]; rfl
theorem viol12_eq (ds : List S70) (t : Th) (h11 : bad11 ds t = false) : viol12 ds (toTV t) = bad12 ds t := by
  unfold viol12 bad12
  cases h : useB t with
  | none => rw [useV_none h]; rfl
  | some s =>
    rw [useV_some h]
    unfold kindV kindB
    rw [loops_toTV]
    simp only [Bool.true_and]
    congr 1
    by_cases hh : hasS (loopsOf t) s = true
    · rw [if_pos hh, if_pos hh]
      cases t <;> simp [toTV, isName]
    · rw [if_neg hh, if_neg hh]
      unfold bad11 at h11
      rw [h] at h11
      simp only [Bool.and_eq_false_iff, Bool.not_eq_false'] at h11
      rcases h11 with h11 | h11
      · exact absurd h11 hh
      · cases hf : findB ds s with
        | none => rw [hf] at h11; cases h11
        | some i =>
          have e : findI ds s = (i : Int) := by unfold findI; rw [hf]
          rw [e, Option.getD_some]
          cases t with
          | decl j => simp [useB] at h
          | stmt x d lo => simp [kindW, toTV, kindD] <;> rfl
          | expr x lo => simp [kindW, toTV, kindD] <;> rfl
theorem viol13_eq (wd : Int) (t : Th) : viol13 wd (toTV t) = bad13 wd t := by cases t <;> simp [viol13, toTV, bad13] <;> rfl
theorem viol14_eq (wd : Int) (t : Th) : viol14 wd (toTV t) = bad14 wd t := by cases t <;> simp [viol14, toTV, bad14] <;> rfl
theorem viol15_eq (ds : List S70) (t : Th) : viol15 ds (toTV t) = bad15 ds t := by
  cases t with
  | decl i => simp [viol15, toTV, bad15]
  | stmt x d lo => unfold viol15 bad15; rw [show (toTV (.stmt x d lo)).s.f1 = x.f1 from rfl, findI_ge]; rfl
  | expr e lo => simp [viol15, toTV, bad15]
theorem viol_v (nm : ByteArray) (wd ln : Int) (ds : List S70) (bd : List S119) (A3 : Option Addr) (c3 : Nat) (A4 : Option Addr) (c4 : Nat) (t : Th) {A5 : Option Addr} {c5 : Nat} {A9 : Option Addr} {c9 : Nat} {A12 : Option Addr} {c12 : Nat} {A13 : Option Addr} {c13 : Nat} {A19 : Option Addr} {c19 : Nat} {A21 : Option Addr} {c21 : Nat} (w : World) (hp : ProgAt w ds bd A3 c3 A4 c4)
    (hlo : Kd.string.C w A21 (toTV t).loops.length (toTV t).loops) (hll : (toTV t).loops.length ≤ c21) (hw : 0 ≤ wd) (hg : goodTh t) (c : Nat) (h10 : 10 ≤ c) (h15 : c ≤ 15) (h12 : c = 12 → bad11 ds t = false) (r : Int) (hr : r = if badC wd ds c t = true then errC c else 0) :
    Calls Tryz.prog 146 #[(.agg #[.string nm, .int .i64 wd, .int .i64 ln, .slice A3 ds.length c3, .slice A4 bd.length c4]), (.agg #[.int .i64 (toTV t).is, .int .i64 (toTV t).d, .int .i64 (toTV t).s.f0, .string (toTV t).s.f1, .int .i64 (toTV t).s.f2.f0, .int .u64 (toTV t).s.f2.f1, .string (toTV t).s.f2.f2, .slice A5 (toTV t).s.f2.f3.length c5, .int .i64 (toTV t).s.f3.f0, .int .u64 (toTV t).s.f3.f1, .string (toTV t).s.f3.f2, .slice A9 (toTV t).s.f3.f3.length c9, .int .u64 (toTV t).s.f4, .int .u64 (toTV t).s.f5, .slice A12 (toTV t).s.f6.length c12, .slice A13 (toTV t).s.f7.length c13, .int .i64 (toTV t).e.f0, .int .u64 (toTV t).e.f1, .string (toTV t).e.f2, .slice A19 (toTV t).e.f3.length c19, .int .i64 (toTV t).deep, .slice A21 (toTV t).loops.length c21]), .int .i64 (c : Int)] w fun e w' => e = .returned (.int .i64 r) ∧ Below w.heap.size w w' := by
  have hx : (toTV t).is = 0 ∨ (toTV t).is = 1 ∨ (toTV t).is = 2 := by cases t <;> simp [toTV]
  have hc : c = 10 ∨ c = 11 ∨ c = 12 ∨ c = 13 ∨ c = 14 ∨ c = 15 := by omega
  rcases hc with rfl | rfl | rfl | rfl | rfl | rfl
  · exact viol10_calls nm wd ln ds bd A3 c3 A4 c4 (toTV t) w hp hlo hll hx r (by rw [hr, viol10_eq]; rfl)
  · exact viol11_calls nm wd ln ds bd A3 c3 A4 c4 (toTV t) w hp hlo hll hx r (by rw [hr, viol11_eq]; rfl)
  · refine viol12_calls nm wd ln ds bd A3 c3 A4 c4 (toTV t) w hp hlo hll hx ?_ r (by rw [hr, viol12_eq ds t (h12 rfl)]; rfl)
    intro hu hh
    have h11 := h12 rfl
    cases h : useB t with
    | none => rw [useV_none h] at hu; cases hu
    | some s =>
      rw [useV_some h, loops_toTV] at hh
      rw [useV_some h]
      unfold bad11 at h11
      rw [h] at h11
      simp only [hh, Bool.not_false, Bool.true_and] at h11
      cases hf : findB ds s with
      | none => rw [hf] at h11; cases h11
      | some i => exact ⟨i, findB_lt hf, by unfold findI; rw [hf]⟩
  · refine viol13_calls nm wd ln ds bd A3 c3 A4 c4 (toTV t) w hp hlo hll hx hw ?_ r (by rw [hr, viol13_eq]; rfl)
    cases t with
    | decl i => exact Int.le_refl 0
    | stmt x d lo => exact Int.le_refl 0
    | expr e lo => exact hg
  · refine viol14_calls nm wd ln ds bd A3 c3 A4 c4 (toTV t) w hp hlo hll hx hw ?_ r (by rw [hr, viol14_eq]; rfl)
    cases t with
    | decl i => exact ⟨Int.le_refl 0, show (0 : Int) < 18446744073709551616 by decide⟩
    | stmt x d lo => exact hg
    | expr e lo => exact ⟨Int.le_refl 0, show (0 : Int) < 18446744073709551616 by decide⟩
  · exact viol15_calls nm wd ln ds bd A3 c3 A4 c4 (toTV t) w hp hlo hll hx r (by rw [hr, viol15_eq]; rfl)
theorem faultC_at {wd : Int} {ds : List S70} {bd : List S119} {l : List Th} {c i : Nat} (h10 : 10 ≤ c) (h15 : c ≤ 15) (hp : ∀ c', 10 ≤ c' → c' < c → ∀ j, j < l.length → badC wd ds c' (thAt l j) = false) (hi : i < l.length) (hb : badC wd ds c (thAt l i) = true) (hj : ∀ j, j < i → badC wd ds c (thAt l j) = false) :
    faultC wd ds bd l 6 = ⟨(c : Int), i, errC c⟩ := by
  have e : firstBad wd ds l c = some i := firstN_some hi hb hj
  have n : ∀ c', 10 ≤ c' → c' < c → firstBad wd ds l c' = none := fun c' h1 h2 => firstN_none (hp c' h1 h2)
  have hc : c = 10 ∨ c = 11 ∨ c = 12 ∨ c = 13 ∨ c = 14 ∨ c = 15 := by omega
  rcases hc with rfl | rfl | rfl | rfl | rfl | rfl
  · simp only [faultC, e] <;> rfl
  · simp only [faultC, n 10 (by decide) (by decide), e] <;> rfl
  · simp only [faultC, n 10 (by decide) (by decide), n 11 (by decide) (by decide), e] <;> rfl
  · simp only [faultC, n 10 (by decide) (by decide), n 11 (by decide) (by decide), n 12 (by decide) (by decide), e] <;> rfl
  · simp only [faultC, n 10 (by decide) (by decide), n 11 (by decide) (by decide), n 12 (by decide) (by decide), n 13 (by decide) (by decide), e] <;> rfl
  · simp only [faultC, n 10 (by decide) (by decide), n 11 (by decide) (by decide), n 12 (by decide) (by decide), n 13 (by decide) (by decide), n 14 (by decide) (by decide), e] <;> rfl
theorem faultC_none {wd : Int} {ds : List S70} {bd : List S119} {l : List Th} (hp : ∀ c', 10 ≤ c' → c' ≤ 15 → ∀ j, j < l.length → badC wd ds c' (thAt l j) = false) :
    faultC wd ds bd l 6 = if 65536 < sizeB bd then ⟨16, -1, 168⟩ else ⟨0, 0, 0⟩ := by
  have n : ∀ c', 10 ≤ c' → c' ≤ 15 → firstBad wd ds l c' = none := fun c' h1 h2 => firstN_none (hp c' h1 h2)
  simp only [faultC, n 10 (by decide) (by decide), n 11 (by decide) (by decide), n 12 (by decide) (by decide), n 13 (by decide) (by decide), n 14 (by decide) (by decide), n 15 (by decide) (by decide)]
theorem declS_e {bd : List S119} {wd : Int} {ds : List S70} : ((declS wd ds).e = 0 ∧ faultD wd ds bd = faultC wd ds bd (things ds bd) 6) ∨ ((declS wd ds).e ≠ 0 ∧ faultD wd ds bd = declS wd ds) := by
  unfold declS faultD
  cases firstN ds.length (twiceB ds) with
  | some i => right; simp
  | none =>
    cases firstN ds.length (sizeBad ds) with
    | some i => right; simp
    | none =>
      cases firstN ds.length (valuesBad ds) with
      | some i => right; simp
      | none =>
        cases firstN ds.length (rangeBad wd ds) with
        | some i => right; simp
        | none =>
          by_cases h : 4096 < wordsS ds
          · right; simp [h]
          · left; simp [h]
theorem headS_e {nm : ByteArray} {wd ln : Int} {ds : List S70} {bd : List S119} : ((headS nm wd ln ds bd).2 = 0 ∧ formB nm wd ln ds bd = true ∧ widthB wd = true ∧ pow2B ln = true ∧ ds.length ≤ 256 ∧ faultS nm wd ln ds bd = faultD wd ds bd) ∨
    ((headS nm wd ln ds bd).2 ≠ 0 ∧ faultS nm wd ln ds bd = ⟨(headS nm wd ln ds bd).1, -1, (headS nm wd ln ds bd).2⟩) := by
  unfold headS faultS
  by_cases h1 : formB nm wd ln ds bd = false
  · right; simp [h1]
  by_cases h2 : widthB wd = false
  · right; simp [h1, h2]
  by_cases h3 : pow2B ln = false
  · right; simp [h1, h2, h3]
  by_cases h4 : 256 < ds.length
  · right; simp [h1, h2, h3, h4]
  · left
    rw [if_neg h1, if_neg h2, if_neg h3, if_neg h4, if_neg h1, if_neg h2, if_neg h3, if_neg h4]
    exact ⟨rfl, by simpa using h1, by simpa using h2, by simpa using h3, by omega, rfl⟩
end Go.Proofs.YtfigjpehecibeaaGreat.L
end
