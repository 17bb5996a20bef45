/- Texts joined by a program of mine: LsA5 LsBlt LsBgt LsB1 LsB2 LsB3 LsB4 LsB5 Lg Lh Li Lm Lk Ln Lo Ot Lp Ws. -/
import Derived.Test.YtfigjpehecibeaaGreatRows
import Derived.Test.YtfigjpehecibeaaGreatZg1
open And renaming intro -> ae
open Bool renaming true -> ac, false -> J
open ByteArray renaming empty -> fo
open Go.Proofs.Tryz renaming prog -> aq, underlying3 -> ke, underlying74 -> jv, underlying9 -> jj
open Go.Proofs.YtfigjpehecibeaaGreatW.PrintWords.Aside0 renaming mk -> I
open Go.Proofs.YtfigjpehecibeaaGreatW.PrintWords.Drawn0 renaming refl -> dh, step -> di
open Go.RowKit.Below renaming refl -> aj
open Go.Value renaming int -> bc
open Go.World renaming block_lt_of_cell? -> ar
open Int renaming lt_or_le -> da, toNat_natCast -> aw, natCast_nonneg -> bg
open List renaming eq_nil_of_length_eq_zero -> cf, isEmpty_eq_false_iff -> dm, isEmpty_iff -> gr, sizeOf_lt_of_mem -> fw, getD_eq_getElem?_getD -> av, getElem?_eq_getElem -> ax, getElem_mem -> fg, all_eq_true -> fe, getElem_of_mem -> gn, cons_append -> gu, mem_cons -> ig, take_length -> du, drop_eq_nil_of_le -> jt, drop_eq_getElem_cons -> iy, getElem?_eq_some_iff -> dz, range -> bu, mem_range -> jg, append_assoc -> ef, length_append -> ay
open Nat renaming le_refl -> ak, eq_zero_or_pos -> cm, zero_le -> bh, not_lt_zero -> cw, lt_or_ge -> gh, mul_one -> gm, add_zero -> fp, min_eq_right -> il, min_eq_left -> db, le_trans -> bi, le_mul_of_pos_right -> fu
open Option renaming none -> ai, some -> af
open Option.some renaming inj -> ck
open Or renaming inl -> az
open SizeOf renaming sizeOf -> cq
set_option linter.unusedVariables false
set_option linter.unusedSimpArgs false
set_option maxHeartbeats 8000000
namespace Go.Proofs.YtfigjpehecibeaaGreat.L
open Go.RowKit Go.Proofs.YtfigjpehecibeaaGreatW.PrintWords Go.Proofs.YtfigjpehecibeaaGreatW.PrintLast Go.Proofs.YtfigjpehecibeaaGreatW.PrintMore Go.Proofs.YtfigjpehecibeaaGreat.Gr
section
attribute [local go_sem] G.cell
set_option maxRecDepth 100000 in
theorem stmtForm_k5 (b:ByteArray)(cc d:S116)(e f:Int)(g hh:List S119){A5:Option Addr}{c5:Nat}{A9:Option Addr}{c9:Nat}{A12:Option Addr}{c12:Nat}{A13:Option Addr}{c13:Nat}(w:World)
 (L:Aside0 (cc.f3.length<=c5/\d.f3.length<=c9/\g.length<=c12/\hh.length<=c13)) (H:Aside0 (dA.C w A5 cc.f3.length cc.f3/\dA.C w A9 d.f3.length d.f3/\dN.C w A12 g.length g/\dN.C w A13 hh.length hh))
 (IH:Aside0 (∀l,l=g\/l=hh->kZ 121 l)):
 Calls aq 168 #[.agg #[.int .i64 5,.string b,.int .i64 cc.f0,.int .u64 cc.f1,.string cc.f2,.slice A5 cc.f3.length c5,.int .i64 d.f0,.int .u64 d.f1,.string d.f2,.slice A9 d.f3.length c9,.int .u64 e,.int .u64 f,.slice A12 g.length c12,.slice A13 hh.length c13]] w fun e' w'=>e'=.returned (.bool (aY ⟨5,b,cc,d,e,f,g,hh⟩&&bdB g&&bdB hh))/\Below w.heap.size w w':=by
 have gout:∀{o:Obj} (g:G (w.alloc o)),Below w.heap.size w g.W:=fun g=>((aj _ _).alloc (ak _) _).trans (g.below.mono (by simp))
 go_enter Tryz.func168,Tryz.ntmps168
 go_upto_region 1 with (fail)
 refine bG (by kernel_rfl) (by kernel_rfl) ?_
 repeat go_big_quiet_step (fail)
 refine wpQuiet_nil ?_
 rintro _ ⟨gg,rfl⟩
 go_wp2_with fail
 rcases aL (cV b)with hh8 | hh8
 ·refine(aD (g:=gg) (gJ hh8 gg.W)).mono ?_
  rintro _ _ ⟨rfl,gg,rfl⟩
  go_wp2_with fail
  rcases aL (kH cc)with hh7 | hh7
  ·refine(aD (g:=gg) (lH hh7 _ _ gg.W (Kd.aF H.out.1 (gout gg)) L.out.1)).mono ?_
   rintro _ _ ⟨rfl,gg,rfl⟩
   go_wp2_with fail
   rcases aL (kH d)with hh6 | hh6
   ·refine(aD (g:=gg) (lH hh6 _ _ gg.W (Kd.aF H.out.2.1 (gout gg)) L.out.2.1)).mono ?_
    rintro _ _ ⟨rfl,gg,rfl⟩
    rcases aL (e != 0)with hh5 | hh5
    ·have he5:¬e=0:=by simpa using hh5
     go_wp2_with fail
     go_ret
     exact⟨aC (by simp[aY,hh8,hh7,hh6,he5]),gout _⟩
    ·have he5:e=0:=by simpa using hh5
     rcases aL (f != 0)with hh4 | hh4
     ·have he4:¬f=0:=by simpa using hh4
      go_wp2_with fail
      go_ret
      exact⟨aC (by simp[aY,hh8,hh7,hh6,he5,he4]),gout _⟩
     ·have he4:f=0:=by simpa using hh4
      rcases cm g.length with hh3 | hh3
      ·have he3:g.isEmpty=ac:=by rw[cf hh3];rfl
       have hn3:¬0<g.length:=by omega
       have hm3:decide (0<g.length)=J:=decide_eq_false hn3
       clear hh3
       rcases cm hh.length with hh2 | hh2
       ·have he2:hh.isEmpty=ac:=by rw[cf hh2];rfl
        have hn2:¬0<hh.length:=by omega
        have hm2:decide (0<hh.length)=J:=decide_eq_false hn2
        clear hh2
        go_wp2_with fail
        rcases aL (bdB g)with hh1 | hh1
        ·refine(aD (g:=gg) (cP (IH.out _ (az rfl)) hh1 _ _ gg.W (Kd.aF H.out.2.2.1 (gout gg)) L.out.2.2.1)).mono ?_
         rintro _ _ ⟨rfl,gg,rfl⟩
         go_wp2_with fail
         rcases aL (bdB hh)with hh0 | hh0
         ·refine(aD (g:=gg) (cP (IH.out _ (Or.inr rfl)) hh0 _ _ gg.W (Kd.aF H.out.2.2.2 (gout gg)) L.out.2.2.2)).mono ?_
          rintro _ _ ⟨rfl,gg,rfl⟩
          go_wp2_with fail
          go_ret
          exact⟨aC (by simp[aY,hh8,hh7,hh6,he5,he4,he3,he2,hh1,hh0]),gout _⟩
         ·refine(aD (g:=gg) (cP (IH.out _ (Or.inr rfl)) hh0 _ _ gg.W (Kd.aF H.out.2.2.2 (gout gg)) L.out.2.2.2)).mono ?_
          rintro _ _ ⟨rfl,gg,rfl⟩
          go_wp2_with fail
          go_ret
          exact⟨aC (by simp[aY,hh8,hh7,hh6,he5,he4,he3,he2,hh1,hh0]),gout _⟩
        ·refine(aD (g:=gg) (cP (IH.out _ (az rfl)) hh1 _ _ gg.W (Kd.aF H.out.2.2.1 (gout gg)) L.out.2.2.1)).mono ?_
         rintro _ _ ⟨rfl,gg,rfl⟩
         go_wp2_with fail
         go_ret
         exact⟨aC (by simp[aY,hh8,hh7,hh6,he5,he4,he3,he2,hh1]),gout _⟩
       ·have he2:hh.isEmpty=J:=by rw[dm];rintro rfl;exact absurd hh2 (by simp)
        go_wp2_with fail
        go_ret
        exact⟨aC (by simp[aY,hh8,hh7,hh6,he5,he4,he3,he2]),gout _⟩
      ·have he3:g.isEmpty=J:=by rw[dm];rintro rfl;exact absurd hh3 (by simp)
       go_wp2_with fail
       go_ret
       exact⟨aC (by simp[aY,hh8,hh7,hh6,he5,he4,he3]),gout _⟩
   ·refine(aD (g:=gg) (lH hh6 _ _ gg.W (Kd.aF H.out.2.1 (gout gg)) L.out.2.1)).mono ?_
    rintro _ _ ⟨rfl,gg,rfl⟩
    go_wp2_with fail
    go_ret
    exact⟨aC (by simp[aY,hh8,hh7,hh6]),gout _⟩
  ·refine(aD (g:=gg) (lH hh7 _ _ gg.W (Kd.aF H.out.1 (gout gg)) L.out.1)).mono ?_
   rintro _ _ ⟨rfl,gg,rfl⟩
   go_wp2_with fail
   go_ret
   exact⟨aC (by simp[aY,hh8,hh7]),gout _⟩
 ·refine(aD (g:=gg) (gJ hh8 gg.W)).mono ?_
  rintro _ _ ⟨rfl,gg,rfl⟩
  go_wp2_with fail
  go_ret
  exact⟨aC (by simp[aY,hh8]),gout _⟩
end
section
attribute [local go_sem] G.cell
set_option maxRecDepth 100000 in
theorem sR (a:Int)(h1:a<1)(b:ByteArray)(cc d:S116)(e f:Int)(g hh:List S119){A5:Option Addr}{c5:Nat}{A9:Option Addr}{c9:Nat}{A12:Option Addr}{c12:Nat}{A13:Option Addr}{c13:Nat}(w:World)
 (L:Aside0 (cc.f3.length<=c5/\d.f3.length<=c9/\g.length<=c12/\hh.length<=c13)) (H:Aside0 (dA.C w A5 cc.f3.length cc.f3/\dA.C w A9 d.f3.length d.f3/\dN.C w A12 g.length g/\dN.C w A13 hh.length hh))
 (IH:Aside0 (∀l,l=g\/l=hh->kZ 126 l)):
 Calls aq 172 #[.agg #[.int .i64 a,.string b,.int .i64 cc.f0,.int .u64 cc.f1,.string cc.f2,.slice A5 cc.f3.length c5,.int .i64 d.f0,.int .u64 d.f1,.string d.f2,.slice A9 d.f3.length c9,.int .u64 e,.int .u64 f,.slice A12 g.length c12,.slice A13 hh.length c13]] w fun e' w'=>e'=.returned (.bool (aY ⟨a,b,cc,d,e,f,g,hh⟩&&bdB g&&bdB hh))/\Below w.heap.size w w':=by
 have gout:∀{o:Obj} (g:G (w.alloc o)),Below w.heap.size w g.W:=fun g=>((aj _ _).alloc (ak _) _).trans (g.below.mono (by simp))
 have h0:aY ⟨a,b,cc,d,e,f,g,hh⟩=J:=by simp[aY];omega
 rw[h0]
 have e2:(a==2)=J:=by simp;omega
 have e3:(a==3)=J:=by simp;omega
 have e4:(a==4)=J:=by simp;omega
 clear h0
 go_enter Tryz.func172,Tryz.ntmps172
 go_upto_region 1 with (fail)
 refine bD ?_
 intro gg
 go_wp2_with fail
 go_ret
 exact⟨aC (by simp),gout _⟩
end
section
attribute [local go_sem] G.cell
set_option maxRecDepth 100000 in
theorem rH (a:Int)(h1:¬a<1)(h2:a > 5)(b:ByteArray)(cc d:S116)(e f:Int)(g hh:List S119){A5:Option Addr}{c5:Nat}{A9:Option Addr}{c9:Nat}{A12:Option Addr}{c12:Nat}{A13:Option Addr}{c13:Nat}(w:World)
 (L:Aside0 (cc.f3.length<=c5/\d.f3.length<=c9/\g.length<=c12/\hh.length<=c13)) (H:Aside0 (dA.C w A5 cc.f3.length cc.f3/\dA.C w A9 d.f3.length d.f3/\dN.C w A12 g.length g/\dN.C w A13 hh.length hh))
 (IH:Aside0 (∀l,l=g\/l=hh->kZ 126 l)):
 Calls aq 172 #[.agg #[.int .i64 a,.string b,.int .i64 cc.f0,.int .u64 cc.f1,.string cc.f2,.slice A5 cc.f3.length c5,.int .i64 d.f0,.int .u64 d.f1,.string d.f2,.slice A9 d.f3.length c9,.int .u64 e,.int .u64 f,.slice A12 g.length c12,.slice A13 hh.length c13]] w fun e' w'=>e'=.returned (.bool (aY ⟨a,b,cc,d,e,f,g,hh⟩&&bdB g&&bdB hh))/\Below w.heap.size w w':=by
 have gout:∀{o:Obj} (g:G (w.alloc o)),Below w.heap.size w g.W:=fun g=>((aj _ _).alloc (ak _) _).trans (g.below.mono (by simp))
 have h0:aY ⟨a,b,cc,d,e,f,g,hh⟩=J:=by simp[aY];omega
 rw[h0]
 have e2:(a==2)=J:=by simp;omega
 have e3:(a==3)=J:=by simp;omega
 have e4:(a==4)=J:=by simp;omega
 clear h0
 go_enter Tryz.func172,Tryz.ntmps172
 go_upto_region 1 with (fail)
 refine bD ?_
 intro gg
 go_wp2_with fail
 go_ret
 exact⟨aC (by simp),gout _⟩
end
section
attribute [local go_sem] G.cell
set_option maxRecDepth 100000 in
theorem refStmtForm_k1 (b:ByteArray)(cc d:S116)(e f:Int)(g hh:List S119){A5:Option Addr}{c5:Nat}{A9:Option Addr}{c9:Nat}{A12:Option Addr}{c12:Nat}{A13:Option Addr}{c13:Nat}(w:World)
 (L:Aside0 (cc.f3.length<=c5/\d.f3.length<=c9/\g.length<=c12/\hh.length<=c13)) (H:Aside0 (dA.C w A5 cc.f3.length cc.f3/\dA.C w A9 d.f3.length d.f3/\dN.C w A12 g.length g/\dN.C w A13 hh.length hh))
 (IH:Aside0 (∀l,l=g\/l=hh->kZ 126 l)):
 Calls aq 172 #[.agg #[.int .i64 1,.string b,.int .i64 cc.f0,.int .u64 cc.f1,.string cc.f2,.slice A5 cc.f3.length c5,.int .i64 d.f0,.int .u64 d.f1,.string d.f2,.slice A9 d.f3.length c9,.int .u64 e,.int .u64 f,.slice A12 g.length c12,.slice A13 hh.length c13]] w fun e' w'=>e'=.returned (.bool (aY ⟨1,b,cc,d,e,f,g,hh⟩&&bdB g&&bdB hh))/\Below w.heap.size w w':=by
 have gout:∀{o:Obj} (g:G (w.alloc o)),Below w.heap.size w g.W:=fun g=>((aj _ _).alloc (ak _) _).trans (g.below.mono (by simp))
 go_enter Tryz.func172,Tryz.ntmps172
 go_upto_region 1 with (fail)
 refine bD ?_
 intro gg
 rcases aL b.toList.isEmpty with hh9 | hh9
 ·have he9:b.toList=[]:=by exact gr.1 hh9
  have hf9:=kQ he9
  go_wp2_with fail
  go_ret
  exact⟨aC (by simp[aY,hf9]),gout _⟩
 ·have he9:¬b.toList=[]:=by intro h;rw[h]at hh9;exact absurd hh9 (by decide)
  go_wp2_with fail
  rcases aL (cV b)with hh8 | hh8
  ·refine(aD (g:=gg) (dV hh8 gg.W)).mono ?_
   rintro _ _ ⟨rfl,gg,rfl⟩
   go_wp2_with fail
   rcases aL (kH cc)with hh7 | hh7
   ·refine(aD (g:=gg) (eU hh7 _ _ gg.W (Kd.aF H.out.1 (gout gg)) L.out.1)).mono ?_
    rintro _ _ ⟨rfl,gg,rfl⟩
    go_wp2_with fail
    rcases aL (exB d)with hh6 | hh6
    ·refine(aD (g:=gg) (dZ hh6 _ _ gg.W (Kd.aF H.out.2.1 (gout gg)) L.out.2.1)).mono ?_
     rintro _ _ ⟨rfl,gg,rfl⟩
     rcases aL (e != 0)with hh5 | hh5
     ·have he5:¬e=0:=by simpa using hh5
      go_wp2_with fail
      go_ret
      exact⟨aC (by simp[aY,hh9,hh8,hh7,hh6,he5]),gout _⟩
     ·have he5:e=0:=by simpa using hh5
      rcases aL (f != 0)with hh4 | hh4
      ·have he4:¬f=0:=by simpa using hh4
       go_wp2_with fail
       go_ret
       exact⟨aC (by simp[aY,hh9,hh8,hh7,hh6,he5,he4]),gout _⟩
      ·have he4:f=0:=by simpa using hh4
       rcases cm hh.length with hh3 | hh3
       ·have he3:hh.isEmpty=ac:=by rw[cf hh3];rfl
        have hn3:¬0<hh.length:=by omega
        have hm3:decide (0<hh.length)=J:=decide_eq_false hn3
        clear hh3
        rcases cm g.length with hh2 | hh2
        ·have he2:g.isEmpty=ac:=by rw[cf hh2];rfl
         have hn2:¬0<g.length:=by omega
         have hm2:decide (0<g.length)=J:=decide_eq_false hn2
         clear hh2
         go_wp2_with fail
         rcases aL (bdB g)with hh1 | hh1
         ·refine(aD (g:=gg) (cP (IH.out _ (az rfl)) hh1 _ _ gg.W (Kd.aF H.out.2.2.1 (gout gg)) L.out.2.2.1)).mono ?_
          rintro _ _ ⟨rfl,gg,rfl⟩
          go_wp2_with fail
          rcases aL (bdB hh)with hh0 | hh0
          ·refine(aD (g:=gg) (cP (IH.out _ (Or.inr rfl)) hh0 _ _ gg.W (Kd.aF H.out.2.2.2 (gout gg)) L.out.2.2.2)).mono ?_
           rintro _ _ ⟨rfl,gg,rfl⟩
           go_wp2_with fail
           go_ret
           exact⟨aC (by simp[aY,hh9,hh8,hh7,hh6,he5,he4,he3,he2,hh1,hh0]),gout _⟩
          ·refine(aD (g:=gg) (cP (IH.out _ (Or.inr rfl)) hh0 _ _ gg.W (Kd.aF H.out.2.2.2 (gout gg)) L.out.2.2.2)).mono ?_
           rintro _ _ ⟨rfl,gg,rfl⟩
           go_wp2_with fail
           go_ret
           exact⟨aC (by simp[aY,hh9,hh8,hh7,hh6,he5,he4,he3,he2,hh1,hh0]),gout _⟩
         ·refine(aD (g:=gg) (cP (IH.out _ (az rfl)) hh1 _ _ gg.W (Kd.aF H.out.2.2.1 (gout gg)) L.out.2.2.1)).mono ?_
          rintro _ _ ⟨rfl,gg,rfl⟩
          go_wp2_with fail
          go_ret
          exact⟨aC (by simp[aY,hh9,hh8,hh7,hh6,he5,he4,he3,he2,hh1]),gout _⟩
        ·have he2:g.isEmpty=J:=by rw[dm];rintro rfl;exact absurd hh2 (by simp)
         go_wp2_with fail
         go_ret
         exact⟨aC (by simp[aY,hh9,hh8,hh7,hh6,he5,he4,he3,he2]),gout _⟩
       ·have he3:hh.isEmpty=J:=by rw[dm];rintro rfl;exact absurd hh3 (by simp)
        go_wp2_with fail
        go_ret
        exact⟨aC (by simp[aY,hh9,hh8,hh7,hh6,he5,he4,he3]),gout _⟩
    ·refine(aD (g:=gg) (dZ hh6 _ _ gg.W (Kd.aF H.out.2.1 (gout gg)) L.out.2.1)).mono ?_
     rintro _ _ ⟨rfl,gg,rfl⟩
     go_wp2_with fail
     go_ret
     exact⟨aC (by simp[aY,hh9,hh8,hh7,hh6]),gout _⟩
   ·refine(aD (g:=gg) (eU hh7 _ _ gg.W (Kd.aF H.out.1 (gout gg)) L.out.1)).mono ?_
    rintro _ _ ⟨rfl,gg,rfl⟩
    go_wp2_with fail
    go_ret
    exact⟨aC (by simp[aY,hh9,hh8,hh7]),gout _⟩
  ·refine(aD (g:=gg) (dV hh8 gg.W)).mono ?_
   rintro _ _ ⟨rfl,gg,rfl⟩
   go_wp2_with fail
   go_ret
   exact⟨aC (by simp[aY,hh9,hh8]),gout _⟩
end
section
attribute [local go_sem] G.cell
set_option maxRecDepth 100000 in
theorem refStmtForm_k2 (b:ByteArray)(cc d:S116)(e f:Int)(g hh:List S119){A5:Option Addr}{c5:Nat}{A9:Option Addr}{c9:Nat}{A12:Option Addr}{c12:Nat}{A13:Option Addr}{c13:Nat}(w:World)
 (L:Aside0 (cc.f3.length<=c5/\d.f3.length<=c9/\g.length<=c12/\hh.length<=c13)) (H:Aside0 (dA.C w A5 cc.f3.length cc.f3/\dA.C w A9 d.f3.length d.f3/\dN.C w A12 g.length g/\dN.C w A13 hh.length hh))
 (IH:Aside0 (∀l,l=g\/l=hh->kZ 126 l)):
 Calls aq 172 #[.agg #[.int .i64 2,.string b,.int .i64 cc.f0,.int .u64 cc.f1,.string cc.f2,.slice A5 cc.f3.length c5,.int .i64 d.f0,.int .u64 d.f1,.string d.f2,.slice A9 d.f3.length c9,.int .u64 e,.int .u64 f,.slice A12 g.length c12,.slice A13 hh.length c13]] w fun e' w'=>e'=.returned (.bool (aY ⟨2,b,cc,d,e,f,g,hh⟩&&bdB g&&bdB hh))/\Below w.heap.size w w':=by
 have gout:∀{o:Obj} (g:G (w.alloc o)),Below w.heap.size w g.W:=fun g=>((aj _ _).alloc (ak _) _).trans (g.below.mono (by simp))
 go_enter Tryz.func172,Tryz.ntmps172
 go_upto_region 1 with (fail)
 refine bD ?_
 intro gg
 rcases aL b.toList.isEmpty with hh9 | hh9
 ·have he9:b.toList=[]:=by exact gr.1 hh9
  have hf9:=kQ he9
  go_wp2_with fail
  go_ret
  exact⟨aC (by simp[aY,hf9]),gout _⟩
 ·have he9:¬b.toList=[]:=by intro h;rw[h]at hh9;exact absurd hh9 (by decide)
  go_wp2_with fail
  rcases aL (cV b)with hh8 | hh8
  ·refine(aD (g:=gg) (dV hh8 gg.W)).mono ?_
   rintro _ _ ⟨rfl,gg,rfl⟩
   go_wp2_with fail
   rcases aL (exB cc)with hh7 | hh7
   ·refine(aD (g:=gg) (dZ hh7 _ _ gg.W (Kd.aF H.out.1 (gout gg)) L.out.1)).mono ?_
    rintro _ _ ⟨rfl,gg,rfl⟩
    go_wp2_with fail
    rcases aL (exB d)with hh6 | hh6
    ·refine(aD (g:=gg) (dZ hh6 _ _ gg.W (Kd.aF H.out.2.1 (gout gg)) L.out.2.1)).mono ?_
     rintro _ _ ⟨rfl,gg,rfl⟩
     rcases aL (e != 0)with hh5 | hh5
     ·have he5:¬e=0:=by simpa using hh5
      go_wp2_with fail
      go_ret
      exact⟨aC (by simp[aY,hh9,hh8,hh7,hh6,he5]),gout _⟩
     ·have he5:e=0:=by simpa using hh5
      rcases aL (f != 0)with hh4 | hh4
      ·have he4:¬f=0:=by simpa using hh4
       go_wp2_with fail
       go_ret
       exact⟨aC (by simp[aY,hh9,hh8,hh7,hh6,he5,he4]),gout _⟩
      ·have he4:f=0:=by simpa using hh4
       rcases cm hh.length with hh3 | hh3
       ·have he3:hh.isEmpty=ac:=by rw[cf hh3];rfl
        have hn3:¬0<hh.length:=by omega
        have hm3:decide (0<hh.length)=J:=decide_eq_false hn3
        clear hh3
        rcases cm g.length with hh2 | hh2
        ·have he2:g.isEmpty=ac:=by rw[cf hh2];rfl
         have hn2:¬0<g.length:=by omega
         have hm2:decide (0<g.length)=J:=decide_eq_false hn2
         clear hh2
         go_wp2_with fail
         rcases aL (bdB g)with hh1 | hh1
         ·refine(aD (g:=gg) (cP (IH.out _ (az rfl)) hh1 _ _ gg.W (Kd.aF H.out.2.2.1 (gout gg)) L.out.2.2.1)).mono ?_
          rintro _ _ ⟨rfl,gg,rfl⟩
          go_wp2_with fail
          rcases aL (bdB hh)with hh0 | hh0
          ·refine(aD (g:=gg) (cP (IH.out _ (Or.inr rfl)) hh0 _ _ gg.W (Kd.aF H.out.2.2.2 (gout gg)) L.out.2.2.2)).mono ?_
           rintro _ _ ⟨rfl,gg,rfl⟩
           go_wp2_with fail
           go_ret
           exact⟨aC (by simp[aY,hh9,hh8,hh7,hh6,he5,he4,he3,he2,hh1,hh0]),gout _⟩
          ·refine(aD (g:=gg) (cP (IH.out _ (Or.inr rfl)) hh0 _ _ gg.W (Kd.aF H.out.2.2.2 (gout gg)) L.out.2.2.2)).mono ?_
           rintro _ _ ⟨rfl,gg,rfl⟩
           go_wp2_with fail
           go_ret
           exact⟨aC (by simp[aY,hh9,hh8,hh7,hh6,he5,he4,he3,he2,hh1,hh0]),gout _⟩
         ·refine(aD (g:=gg) (cP (IH.out _ (az rfl)) hh1 _ _ gg.W (Kd.aF H.out.2.2.1 (gout gg)) L.out.2.2.1)).mono ?_
          rintro _ _ ⟨rfl,gg,rfl⟩
          go_wp2_with fail
          go_ret
          exact⟨aC (by simp[aY,hh9,hh8,hh7,hh6,he5,he4,he3,he2,hh1]),gout _⟩
        ·have he2:g.isEmpty=J:=by rw[dm];rintro rfl;exact absurd hh2 (by simp)
         go_wp2_with fail
         go_ret
         exact⟨aC (by simp[aY,hh9,hh8,hh7,hh6,he5,he4,he3,he2]),gout _⟩
       ·have he3:hh.isEmpty=J:=by rw[dm];rintro rfl;exact absurd hh3 (by simp)
        go_wp2_with fail
        go_ret
        exact⟨aC (by simp[aY,hh9,hh8,hh7,hh6,he5,he4,he3]),gout _⟩
    ·refine(aD (g:=gg) (dZ hh6 _ _ gg.W (Kd.aF H.out.2.1 (gout gg)) L.out.2.1)).mono ?_
     rintro _ _ ⟨rfl,gg,rfl⟩
     go_wp2_with fail
     go_ret
     exact⟨aC (by simp[aY,hh9,hh8,hh7,hh6]),gout _⟩
   ·refine(aD (g:=gg) (dZ hh7 _ _ gg.W (Kd.aF H.out.1 (gout gg)) L.out.1)).mono ?_
    rintro _ _ ⟨rfl,gg,rfl⟩
    go_wp2_with fail
    go_ret
    exact⟨aC (by simp[aY,hh9,hh8,hh7]),gout _⟩
  ·refine(aD (g:=gg) (dV hh8 gg.W)).mono ?_
   rintro _ _ ⟨rfl,gg,rfl⟩
   go_wp2_with fail
   go_ret
   exact⟨aC (by simp[aY,hh9,hh8]),gout _⟩
end
section
attribute [local go_sem] G.cell
set_option maxRecDepth 100000 in
theorem refStmtForm_k3 (b:ByteArray)(cc d:S116)(e f:Int)(g hh:List S119){A5:Option Addr}{c5:Nat}{A9:Option Addr}{c9:Nat}{A12:Option Addr}{c12:Nat}{A13:Option Addr}{c13:Nat}(w:World)
 (L:Aside0 (cc.f3.length<=c5/\d.f3.length<=c9/\g.length<=c12/\hh.length<=c13)) (H:Aside0 (dA.C w A5 cc.f3.length cc.f3/\dA.C w A9 d.f3.length d.f3/\dN.C w A12 g.length g/\dN.C w A13 hh.length hh))
 (IH:Aside0 (∀l,l=g\/l=hh->kZ 126 l)):
 Calls aq 172 #[.agg #[.int .i64 3,.string b,.int .i64 cc.f0,.int .u64 cc.f1,.string cc.f2,.slice A5 cc.f3.length c5,.int .i64 d.f0,.int .u64 d.f1,.string d.f2,.slice A9 d.f3.length c9,.int .u64 e,.int .u64 f,.slice A12 g.length c12,.slice A13 hh.length c13]] w fun e' w'=>e'=.returned (.bool (aY ⟨3,b,cc,d,e,f,g,hh⟩&&bdB g&&bdB hh))/\Below w.heap.size w w':=by
 have gout:∀{o:Obj} (g:G (w.alloc o)),Below w.heap.size w g.W:=fun g=>((aj _ _).alloc (ak _) _).trans (g.below.mono (by simp))
 go_enter Tryz.func172,Tryz.ntmps172
 go_upto_region 1 with (fail)
 refine bD ?_
 intro gg
 rcases aL b.toList.isEmpty with hh6 | hh6
 ·have he6:b.toList=[]:=by exact gr.1 hh6
  go_wp2_with fail
  rcases aL (kH cc)with hh5 | hh5
  ·refine(aD (g:=gg) (eU hh5 _ _ gg.W (Kd.aF H.out.1 (gout gg)) L.out.1)).mono ?_
   rintro _ _ ⟨rfl,gg,rfl⟩
   go_wp2_with fail
   rcases aL (exB d)with hh4 | hh4
   ·refine(aD (g:=gg) (dZ hh4 _ _ gg.W (Kd.aF H.out.2.1 (gout gg)) L.out.2.1)).mono ?_
    rintro _ _ ⟨rfl,gg,rfl⟩
    rcases aL (e != 0)with hh3 | hh3
    ·have he3:¬e=0:=by simpa using hh3
     go_wp2_with fail
     go_ret
     exact⟨aC (by simp[aY,hh6,hh5,hh4,he3]),gout _⟩
    ·have he3:e=0:=by simpa using hh3
     rcases aL (f != 0)with hh2 | hh2
     ·have he2:¬f=0:=by simpa using hh2
      go_wp2_with fail
      go_ret
      exact⟨aC (by simp[aY,hh6,hh5,hh4,he3,he2]),gout _⟩
     ·have he2:f=0:=by simpa using hh2
      go_wp2_with fail
      rcases aL (bdB g)with hh1 | hh1
      ·refine(aD (g:=gg) (cP (IH.out _ (az rfl)) hh1 _ _ gg.W (Kd.aF H.out.2.2.1 (gout gg)) L.out.2.2.1)).mono ?_
       rintro _ _ ⟨rfl,gg,rfl⟩
       go_wp2_with fail
       rcases aL (bdB hh)with hh0 | hh0
       ·refine(aD (g:=gg) (cP (IH.out _ (Or.inr rfl)) hh0 _ _ gg.W (Kd.aF H.out.2.2.2 (gout gg)) L.out.2.2.2)).mono ?_
        rintro _ _ ⟨rfl,gg,rfl⟩
        go_wp2_with fail
        go_ret
        exact⟨aC (by simp[aY,hh6,hh5,hh4,he3,he2,hh1,hh0]),gout _⟩
       ·refine(aD (g:=gg) (cP (IH.out _ (Or.inr rfl)) hh0 _ _ gg.W (Kd.aF H.out.2.2.2 (gout gg)) L.out.2.2.2)).mono ?_
        rintro _ _ ⟨rfl,gg,rfl⟩
        go_wp2_with fail
        go_ret
        exact⟨aC (by simp[aY,hh6,hh5,hh4,he3,he2,hh1,hh0]),gout _⟩
      ·refine(aD (g:=gg) (cP (IH.out _ (az rfl)) hh1 _ _ gg.W (Kd.aF H.out.2.2.1 (gout gg)) L.out.2.2.1)).mono ?_
       rintro _ _ ⟨rfl,gg,rfl⟩
       go_wp2_with fail
       go_ret
       exact⟨aC (by simp[aY,hh6,hh5,hh4,he3,he2,hh1]),gout _⟩
   ·refine(aD (g:=gg) (dZ hh4 _ _ gg.W (Kd.aF H.out.2.1 (gout gg)) L.out.2.1)).mono ?_
    rintro _ _ ⟨rfl,gg,rfl⟩
    go_wp2_with fail
    go_ret
    exact⟨aC (by simp[aY,hh6,hh5,hh4]),gout _⟩
  ·refine(aD (g:=gg) (eU hh5 _ _ gg.W (Kd.aF H.out.1 (gout gg)) L.out.1)).mono ?_
   rintro _ _ ⟨rfl,gg,rfl⟩
   go_wp2_with fail
   go_ret
   exact⟨aC (by simp[aY,hh6,hh5]),gout _⟩
 ·have he6:¬b.toList=[]:=by intro h;rw[h]at hh6;exact absurd hh6 (by decide)
  go_wp2_with fail
  go_ret
  exact⟨aC (by simp[aY,hh6]),gout _⟩
end
section
attribute [local go_sem] G.cell
set_option maxRecDepth 100000 in
theorem refStmtForm_k4 (b:ByteArray)(cc d:S116)(e f:Int)(g hh:List S119){A5:Option Addr}{c5:Nat}{A9:Option Addr}{c9:Nat}{A12:Option Addr}{c12:Nat}{A13:Option Addr}{c13:Nat}(w:World)
 (L:Aside0 (cc.f3.length<=c5/\d.f3.length<=c9/\g.length<=c12/\hh.length<=c13)) (H:Aside0 (dA.C w A5 cc.f3.length cc.f3/\dA.C w A9 d.f3.length d.f3/\dN.C w A12 g.length g/\dN.C w A13 hh.length hh))
 (IH:Aside0 (∀l,l=g\/l=hh->kZ 126 l)):
 Calls aq 172 #[.agg #[.int .i64 4,.string b,.int .i64 cc.f0,.int .u64 cc.f1,.string cc.f2,.slice A5 cc.f3.length c5,.int .i64 d.f0,.int .u64 d.f1,.string d.f2,.slice A9 d.f3.length c9,.int .u64 e,.int .u64 f,.slice A12 g.length c12,.slice A13 hh.length c13]] w fun e' w'=>e'=.returned (.bool (aY ⟨4,b,cc,d,e,f,g,hh⟩&&bdB g&&bdB hh))/\Below w.heap.size w w':=by
 have gout:∀{o:Obj} (g:G (w.alloc o)),Below w.heap.size w g.W:=fun g=>((aj _ _).alloc (ak _) _).trans (g.below.mono (by simp))
 go_enter Tryz.func172,Tryz.ntmps172
 go_upto_region 1 with (fail)
 refine bD ?_
 intro gg
 rcases aL b.toList.isEmpty with hh6 | hh6
 ·have he6:b.toList=[]:=by exact gr.1 hh6
  have hf6:=kQ he6
  go_wp2_with fail
  go_ret
  exact⟨aC (by simp[aY,hf6]),gout _⟩
 ·have he6:¬b.toList=[]:=by intro h;rw[h]at hh6;exact absurd hh6 (by decide)
  go_wp2_with fail
  rcases aL (cV b)with hh5 | hh5
  ·refine(aD (g:=gg) (dV hh5 gg.W)).mono ?_
   rintro _ _ ⟨rfl,gg,rfl⟩
   go_wp2_with fail
   rcases aL (kH cc)with hh4 | hh4
   ·refine(aD (g:=gg) (eU hh4 _ _ gg.W (Kd.aF H.out.1 (gout gg)) L.out.1)).mono ?_
    rintro _ _ ⟨rfl,gg,rfl⟩
    go_wp2_with fail
    rcases aL (kH d)with hh3 | hh3
    ·refine(aD (g:=gg) (eU hh3 _ _ gg.W (Kd.aF H.out.2.1 (gout gg)) L.out.2.1)).mono ?_
     rintro _ _ ⟨rfl,gg,rfl⟩
     rcases cm hh.length with hh2 | hh2
     ·have he2:hh.isEmpty=ac:=by rw[cf hh2];rfl
      have hn2:¬0<hh.length:=by omega
      have hm2:decide (0<hh.length)=J:=decide_eq_false hn2
      clear hh2
      go_wp2_with fail
      rcases aL (bdB g)with hh1 | hh1
      ·refine(aD (g:=gg) (cP (IH.out _ (az rfl)) hh1 _ _ gg.W (Kd.aF H.out.2.2.1 (gout gg)) L.out.2.2.1)).mono ?_
       rintro _ _ ⟨rfl,gg,rfl⟩
       go_wp2_with fail
       rcases aL (bdB hh)with hh0 | hh0
       ·refine(aD (g:=gg) (cP (IH.out _ (Or.inr rfl)) hh0 _ _ gg.W (Kd.aF H.out.2.2.2 (gout gg)) L.out.2.2.2)).mono ?_
        rintro _ _ ⟨rfl,gg,rfl⟩
        go_wp2_with fail
        go_ret
        exact⟨aC (by simp[aY,hh6,hh5,hh4,hh3,he2,hh1,hh0]),gout _⟩
       ·refine(aD (g:=gg) (cP (IH.out _ (Or.inr rfl)) hh0 _ _ gg.W (Kd.aF H.out.2.2.2 (gout gg)) L.out.2.2.2)).mono ?_
        rintro _ _ ⟨rfl,gg,rfl⟩
        go_wp2_with fail
        go_ret
        exact⟨aC (by simp[aY,hh6,hh5,hh4,hh3,he2,hh1,hh0]),gout _⟩
      ·refine(aD (g:=gg) (cP (IH.out _ (az rfl)) hh1 _ _ gg.W (Kd.aF H.out.2.2.1 (gout gg)) L.out.2.2.1)).mono ?_
       rintro _ _ ⟨rfl,gg,rfl⟩
       go_wp2_with fail
       go_ret
       exact⟨aC (by simp[aY,hh6,hh5,hh4,hh3,he2,hh1]),gout _⟩
     ·have he2:hh.isEmpty=J:=by rw[dm];rintro rfl;exact absurd hh2 (by simp)
      go_wp2_with fail
      go_ret
      exact⟨aC (by simp[aY,hh6,hh5,hh4,hh3,he2]),gout _⟩
    ·refine(aD (g:=gg) (eU hh3 _ _ gg.W (Kd.aF H.out.2.1 (gout gg)) L.out.2.1)).mono ?_
     rintro _ _ ⟨rfl,gg,rfl⟩
     go_wp2_with fail
     go_ret
     exact⟨aC (by simp[aY,hh6,hh5,hh4,hh3]),gout _⟩
   ·refine(aD (g:=gg) (eU hh4 _ _ gg.W (Kd.aF H.out.1 (gout gg)) L.out.1)).mono ?_
    rintro _ _ ⟨rfl,gg,rfl⟩
    go_wp2_with fail
    go_ret
    exact⟨aC (by simp[aY,hh6,hh5,hh4]),gout _⟩
  ·refine(aD (g:=gg) (dV hh5 gg.W)).mono ?_
   rintro _ _ ⟨rfl,gg,rfl⟩
   go_wp2_with fail
   go_ret
   exact⟨aC (by simp[aY,hh6,hh5]),gout _⟩
end
section
attribute [local go_sem] G.cell
set_option maxRecDepth 100000 in
theorem refStmtForm_k5 (b:ByteArray)(cc d:S116)(e f:Int)(g hh:List S119){A5:Option Addr}{c5:Nat}{A9:Option Addr}{c9:Nat}{A12:Option Addr}{c12:Nat}{A13:Option Addr}{c13:Nat}(w:World)
 (L:Aside0 (cc.f3.length<=c5/\d.f3.length<=c9/\g.length<=c12/\hh.length<=c13)) (H:Aside0 (dA.C w A5 cc.f3.length cc.f3/\dA.C w A9 d.f3.length d.f3/\dN.C w A12 g.length g/\dN.C w A13 hh.length hh))
 (IH:Aside0 (∀l,l=g\/l=hh->kZ 126 l)):
 Calls aq 172 #[.agg #[.int .i64 5,.string b,.int .i64 cc.f0,.int .u64 cc.f1,.string cc.f2,.slice A5 cc.f3.length c5,.int .i64 d.f0,.int .u64 d.f1,.string d.f2,.slice A9 d.f3.length c9,.int .u64 e,.int .u64 f,.slice A12 g.length c12,.slice A13 hh.length c13]] w fun e' w'=>e'=.returned (.bool (aY ⟨5,b,cc,d,e,f,g,hh⟩&&bdB g&&bdB hh))/\Below w.heap.size w w':=by
 have gout:∀{o:Obj} (g:G (w.alloc o)),Below w.heap.size w g.W:=fun g=>((aj _ _).alloc (ak _) _).trans (g.below.mono (by simp))
 go_enter Tryz.func172,Tryz.ntmps172
 go_upto_region 1 with (fail)
 refine bD ?_
 intro gg
 rcases aL b.toList.isEmpty with hh9 | hh9
 ·have he9:b.toList=[]:=by exact gr.1 hh9
  have hf9:=kQ he9
  go_wp2_with fail
  go_ret
  exact⟨aC (by simp[aY,hf9]),gout _⟩
 ·have he9:¬b.toList=[]:=by intro h;rw[h]at hh9;exact absurd hh9 (by decide)
  go_wp2_with fail
  rcases aL (cV b)with hh8 | hh8
  ·refine(aD (g:=gg) (dV hh8 gg.W)).mono ?_
   rintro _ _ ⟨rfl,gg,rfl⟩
   go_wp2_with fail
   rcases aL (kH cc)with hh7 | hh7
   ·refine(aD (g:=gg) (eU hh7 _ _ gg.W (Kd.aF H.out.1 (gout gg)) L.out.1)).mono ?_
    rintro _ _ ⟨rfl,gg,rfl⟩
    go_wp2_with fail
    rcases aL (kH d)with hh6 | hh6
    ·refine(aD (g:=gg) (eU hh6 _ _ gg.W (Kd.aF H.out.2.1 (gout gg)) L.out.2.1)).mono ?_
     rintro _ _ ⟨rfl,gg,rfl⟩
     rcases aL (e != 0)with hh5 | hh5
     ·have he5:¬e=0:=by simpa using hh5
      go_wp2_with fail
      go_ret
      exact⟨aC (by simp[aY,hh9,hh8,hh7,hh6,he5]),gout _⟩
     ·have he5:e=0:=by simpa using hh5
      rcases aL (f != 0)with hh4 | hh4
      ·have he4:¬f=0:=by simpa using hh4
       go_wp2_with fail
       go_ret
       exact⟨aC (by simp[aY,hh9,hh8,hh7,hh6,he5,he4]),gout _⟩
      ·have he4:f=0:=by simpa using hh4
       rcases cm hh.length with hh3 | hh3
       ·have he3:hh.isEmpty=ac:=by rw[cf hh3];rfl
        have hn3:¬0<hh.length:=by omega
        have hm3:decide (0<hh.length)=J:=decide_eq_false hn3
        clear hh3
        rcases cm g.length with hh2 | hh2
        ·have he2:g.isEmpty=ac:=by rw[cf hh2];rfl
         have hn2:¬0<g.length:=by omega
         have hm2:decide (0<g.length)=J:=decide_eq_false hn2
         clear hh2
         go_wp2_with fail
         rcases aL (bdB g)with hh1 | hh1
         ·refine(aD (g:=gg) (cP (IH.out _ (az rfl)) hh1 _ _ gg.W (Kd.aF H.out.2.2.1 (gout gg)) L.out.2.2.1)).mono ?_
          rintro _ _ ⟨rfl,gg,rfl⟩
          go_wp2_with fail
          rcases aL (bdB hh)with hh0 | hh0
          ·refine(aD (g:=gg) (cP (IH.out _ (Or.inr rfl)) hh0 _ _ gg.W (Kd.aF H.out.2.2.2 (gout gg)) L.out.2.2.2)).mono ?_
           rintro _ _ ⟨rfl,gg,rfl⟩
           go_wp2_with fail
           go_ret
           exact⟨aC (by simp[aY,hh9,hh8,hh7,hh6,he5,he4,he3,he2,hh1,hh0]),gout _⟩
          ·refine(aD (g:=gg) (cP (IH.out _ (Or.inr rfl)) hh0 _ _ gg.W (Kd.aF H.out.2.2.2 (gout gg)) L.out.2.2.2)).mono ?_
           rintro _ _ ⟨rfl,gg,rfl⟩
           go_wp2_with fail
           go_ret
           exact⟨aC (by simp[aY,hh9,hh8,hh7,hh6,he5,he4,he3,he2,hh1,hh0]),gout _⟩
         ·refine(aD (g:=gg) (cP (IH.out _ (az rfl)) hh1 _ _ gg.W (Kd.aF H.out.2.2.1 (gout gg)) L.out.2.2.1)).mono ?_
          rintro _ _ ⟨rfl,gg,rfl⟩
          go_wp2_with fail
          go_ret
          exact⟨aC (by simp[aY,hh9,hh8,hh7,hh6,he5,he4,he3,he2,hh1]),gout _⟩
        ·have he2:g.isEmpty=J:=by rw[dm];rintro rfl;exact absurd hh2 (by simp)
         go_wp2_with fail
         go_ret
         exact⟨aC (by simp[aY,hh9,hh8,hh7,hh6,he5,he4,he3,he2]),gout _⟩
       ·have he3:hh.isEmpty=J:=by rw[dm];rintro rfl;exact absurd hh3 (by simp)
        go_wp2_with fail
        go_ret
        exact⟨aC (by simp[aY,hh9,hh8,hh7,hh6,he5,he4,he3]),gout _⟩
    ·refine(aD (g:=gg) (eU hh6 _ _ gg.W (Kd.aF H.out.2.1 (gout gg)) L.out.2.1)).mono ?_
     rintro _ _ ⟨rfl,gg,rfl⟩
     go_wp2_with fail
     go_ret
     exact⟨aC (by simp[aY,hh9,hh8,hh7,hh6]),gout _⟩
   ·refine(aD (g:=gg) (eU hh7 _ _ gg.W (Kd.aF H.out.1 (gout gg)) L.out.1)).mono ?_
    rintro _ _ ⟨rfl,gg,rfl⟩
    go_wp2_with fail
    go_ret
    exact⟨aC (by simp[aY,hh9,hh8,hh7]),gout _⟩
  ·refine(aD (g:=gg) (dV hh8 gg.W)).mono ?_
   rintro _ _ ⟨rfl,gg,rfl⟩
   go_wp2_with fail
   go_ret
   exact⟨aC (by simp[aY,hh9,hh8]),gout _⟩
end
theorem kinds (a:Int):a<1\/(¬a<1/\a > 5)\/a=1\/a=2\/a=3\/a=4\/a=5:=by omega
theorem stmtForm_walk (x:S119)(ih:∀l,l=x.f6\/l=x.f7->kZ 121 l):StmtC 168 x:=by
 intro A5 c5 A9 c9 A12 c12 A13 c13 w l5 g5 l9 g9 l12 g12 l13 g13
 have L:=I (ae l5 (ae l9 (ae l12 l13)))
 have H:=I (ae g5 (ae g9 (ae g12 g13)))
 have IH:=I ih
 rw[pN]
 obtain⟨a,b,cc,d,e,f,g,hh⟩:=x
 simp only at*
 rcases kinds a with h | ⟨h,h'⟩ | rfl | rfl | rfl | rfl | rfl
 ·exact stmtForm_klt a h b cc d e f g hh w L H IH
 ·exact stmtForm_kgt a h h' b cc d e f g hh w L H IH
 ·exact stmtForm_k1 b cc d e f g hh w L H IH
 ·exact stmtForm_k2 b cc d e f g hh w L H IH
 ·exact stmtForm_k3 b cc d e f g hh w L H IH
 ·exact stmtForm_k4 b cc d e f g hh w L H IH
 ·exact stmtForm_k5 b cc d e f g hh w L H IH
theorem pW (x:S119)(ih:∀l,l=x.f6\/l=x.f7->kZ 126 l):StmtC 172 x:=by
 intro A5 c5 A9 c9 A12 c12 A13 c13 w l5 g5 l9 g9 l12 g12 l13 g13
 have L:=I (ae l5 (ae l9 (ae l12 l13)))
 have H:=I (ae g5 (ae g9 (ae g12 g13)))
 have IH:=I ih
 rw[pN]
 obtain⟨a,b,cc,d,e,f,g,hh⟩:=x
 simp only at*
 rcases kinds a with h | ⟨h,h'⟩ | rfl | rfl | rfl | rfl | rfl
 ·exact sR a h b cc d e f g hh w L H IH
 ·exact rH a h h' b cc d e f g hh w L H IH
 ·exact refStmtForm_k1 b cc d e f g hh w L H IH
 ·exact refStmtForm_k2 b cc d e f g hh w L H IH
 ·exact refStmtForm_k3 b cc d e f g hh w L H IH
 ·exact refStmtForm_k4 b cc d e f g hh w L H IH
 ·exact refStmtForm_k5 b cc d e f g hh w L H IH
theorem st_size {x y:S119}{l:List S119}{n:Nat}(hl:l=x.f6\/l=x.f7)(hy:y∈l)(h:cq x<=n+1):cq y<=n:=by
 have:=fw hy
 obtain⟨a,b,cc,d,e,f,g,hh⟩:=x
 simp at h
 simp only at hl
 rcases hl with rfl | rfl <;> omega
theorem stmtForm_all:∀(n:Nat) (x:S119),cq x<=n->StmtC 168 x:=by
 intro n
 induction n with
 |zero=>intro x h;obtain⟨a,b,c,l⟩:=x;simp at h
 |succ n ih=>
  intro x h
  refine stmtForm_walk x fun l hl A c w' hc hlc=> ?_
  rw[lM]
  exact nW l A c w' hc hlc fun y hy=>ih y (st_size hl hy h)
theorem qP:∀(n:Nat) (x:S119),cq x<=n->StmtC 172 x:=by
 intro n
 induction n with
 |zero=>intro x h;obtain⟨a,b,c,l⟩:=x;simp at h
 |succ n ih=>
  intro x h
  refine pW x fun l hl A c w' hc hlc=> ?_
  rw[lM]
  exact mR l A c w' hc hlc fun y hy=>ih y (st_size hl hy h)
theorem bodyForm_calls (l:List S119):kZ 121 l:=fun A c w' hc hl=>by
 rw[lM];exact nW l A c w' hc hl fun y _=>stmtForm_all _ y (ak _)
theorem qU (l:List S119):kZ 126 l:=fun A c w' hc hl=>by
 rw[lM];exact mR l A c w' hc hl fun y _=>qP _ y (ak _)
section
attribute [local go_sem] G.cell
def dcB (x:S70):Bool:=decide (1<=x.f0)&&decide (x.f0<=5)&&cV x.f1&&decide (0<=x.f2)&&(if x.f0=3 then decide (0<x.f3.length)&&decide (0<x.f2)else x.f3.isEmpty)
theorem kinds5 (a:Int):a<1\/(¬a<1/\a > 5)\/a=1\/a=2\/a=3\/a=4\/a=5:=by omega
set_option maxRecDepth 100000 in
theorem declForm_klt (a:Int)(h1:a<1)(b:ByteArray)(s:Int)(l:List Int){A:Option Addr}{c:Nat}(w:World):
 Calls aq 120 #[.agg #[.int .i64 a,.string b,.int .i64 s,.slice A l.length c]] w fun e' w'=>e'=.returned (.bool (dcB ⟨a,b,s,l⟩))/\Below w.heap.size w w':=by
 have gout:∀{o:Obj} (g:G (w.alloc o)),Below w.heap.size w g.W:=fun g=>((aj _ _).alloc (ak _) _).trans (g.below.mono (by simp))
 have h0:dcB ⟨a,b,s,l⟩=J:=by simp[dcB];omega
 rw[h0]
 clear h0
 go_enter Tryz.func120,Tryz.ntmps120
 go_upto_region 1 with (fail)
 refine bD ?_
 intro gg
 go_wp2_with fail
 go_ret
 exact⟨aC (by simp),gout _⟩
set_option maxRecDepth 100000 in
theorem declForm_kgt (a:Int)(h1:¬a<1)(h2:a > 5)(b:ByteArray)(s:Int)(l:List Int){A:Option Addr}{c:Nat}(w:World):
 Calls aq 120 #[.agg #[.int .i64 a,.string b,.int .i64 s,.slice A l.length c]] w fun e' w'=>e'=.returned (.bool (dcB ⟨a,b,s,l⟩))/\Below w.heap.size w w':=by
 have gout:∀{o:Obj} (g:G (w.alloc o)),Below w.heap.size w g.W:=fun g=>((aj _ _).alloc (ak _) _).trans (g.below.mono (by simp))
 have h0:dcB ⟨a,b,s,l⟩=J:=by simp[dcB];omega
 rw[h0]
 clear h0
 go_enter Tryz.func120,Tryz.ntmps120
 go_upto_region 1 with (fail)
 refine bD ?_
 intro gg
 go_wp2_with fail
 go_ret
 exact⟨aC (by simp),gout _⟩
set_option maxRecDepth 100000 in
theorem declForm_k1 (b:ByteArray)(s:Int)(l:List Int){A:Option Addr}{c:Nat}(w:World):
 Calls aq 120 #[.agg #[.int .i64 1,.string b,.int .i64 s,.slice A l.length c]] w fun e' w'=>e'=.returned (.bool (dcB ⟨1,b,s,l⟩))/\Below w.heap.size w w':=by
 have gout:∀{o:Obj} (g:G (w.alloc o)),Below w.heap.size w g.W:=fun g=>((aj _ _).alloc (ak _) _).trans (g.below.mono (by simp))
 go_enter Tryz.func120,Tryz.ntmps120
 go_upto_region 1 with (fail)
 refine bD ?_
 intro gg
 go_wp2_with fail
 rcases aL (cV b)with h1 | h1
 all_goals
  refine(aD (g:=gg) (gJ h1 gg.W)).mono ?_
  rintro _ _ ⟨rfl,gg,rfl⟩
 ·rcases da s 0 with h2 | h2
  ·have h3:¬0<=s:=by omega
   go_wp2_with fail
   go_ret
   exact⟨aC (by simp[dcB,h1,h3] <;> (intros;omega)),gout _⟩
  ·have h3:¬s<0:=by omega
   rcases l with _ | ⟨y,r⟩
   all_goals
    (try have h6:((r.length:Int)+1==0)=J:=by simp;omega)
    go_wp2_with fail
    go_ret
    exact⟨aC (by simp[dcB,h1,h2];try omega),gout _⟩
 ·go_wp2_with fail
  go_ret
  exact⟨aC (by simp[dcB,h1]),gout _⟩
set_option maxRecDepth 100000 in
theorem declForm_k2 (b:ByteArray)(s:Int)(l:List Int){A:Option Addr}{c:Nat}(w:World):
 Calls aq 120 #[.agg #[.int .i64 2,.string b,.int .i64 s,.slice A l.length c]] w fun e' w'=>e'=.returned (.bool (dcB ⟨2,b,s,l⟩))/\Below w.heap.size w w':=by
 have gout:∀{o:Obj} (g:G (w.alloc o)),Below w.heap.size w g.W:=fun g=>((aj _ _).alloc (ak _) _).trans (g.below.mono (by simp))
 go_enter Tryz.func120,Tryz.ntmps120
 go_upto_region 1 with (fail)
 refine bD ?_
 intro gg
 go_wp2_with fail
 rcases aL (cV b)with h1 | h1
 all_goals
  refine(aD (g:=gg) (gJ h1 gg.W)).mono ?_
  rintro _ _ ⟨rfl,gg,rfl⟩
 ·rcases da s 0 with h2 | h2
  ·have h3:¬0<=s:=by omega
   go_wp2_with fail
   go_ret
   exact⟨aC (by simp[dcB,h1,h3] <;> (intros;omega)),gout _⟩
  ·have h3:¬s<0:=by omega
   rcases l with _ | ⟨y,r⟩
   all_goals
    (try have h6:((r.length:Int)+1==0)=J:=by simp;omega)
    go_wp2_with fail
    go_ret
    exact⟨aC (by simp[dcB,h1,h2];try omega),gout _⟩
 ·go_wp2_with fail
  go_ret
  exact⟨aC (by simp[dcB,h1]),gout _⟩
set_option maxRecDepth 100000 in
theorem declForm_k3 (b:ByteArray)(s:Int)(l:List Int){A:Option Addr}{c:Nat}(w:World):
 Calls aq 120 #[.agg #[.int .i64 3,.string b,.int .i64 s,.slice A l.length c]] w fun e' w'=>e'=.returned (.bool (dcB ⟨3,b,s,l⟩))/\Below w.heap.size w w':=by
 have gout:∀{o:Obj} (g:G (w.alloc o)),Below w.heap.size w g.W:=fun g=>((aj _ _).alloc (ak _) _).trans (g.below.mono (by simp))
 go_enter Tryz.func120,Tryz.ntmps120
 go_upto_region 1 with (fail)
 refine bD ?_
 intro gg
 go_wp2_with fail
 rcases aL (cV b)with h1 | h1
 all_goals
  refine(aD (g:=gg) (gJ h1 gg.W)).mono ?_
  rintro _ _ ⟨rfl,gg,rfl⟩
 ·rcases da s 0 with h2 | h2
  ·have h3:¬0<=s:=by omega
   go_wp2_with fail
   go_ret
   exact⟨aC (by simp[dcB,h1,h3] <;> (intros;omega)),gout _⟩
  ·have h3:¬s<0:=by omega
   rcases da 0 s with h4 | h4
   ·rcases l with _ | ⟨y,r⟩
    all_goals
     go_wp2_with fail
     go_ret
     exact⟨aC (by simp[dcB,h1,h2,h4]),gout _⟩
   ·have h5:¬0<s:=by omega
    rcases l with _ | ⟨y,r⟩
    all_goals
     go_wp2_with fail
     go_ret
     exact⟨aC (by simp[dcB,h1,h2,h5]),gout _⟩
 ·go_wp2_with fail
  go_ret
  exact⟨aC (by simp[dcB,h1]),gout _⟩
set_option maxRecDepth 100000 in
theorem declForm_k4 (b:ByteArray)(s:Int)(l:List Int){A:Option Addr}{c:Nat}(w:World):
 Calls aq 120 #[.agg #[.int .i64 4,.string b,.int .i64 s,.slice A l.length c]] w fun e' w'=>e'=.returned (.bool (dcB ⟨4,b,s,l⟩))/\Below w.heap.size w w':=by
 have gout:∀{o:Obj} (g:G (w.alloc o)),Below w.heap.size w g.W:=fun g=>((aj _ _).alloc (ak _) _).trans (g.below.mono (by simp))
 go_enter Tryz.func120,Tryz.ntmps120
 go_upto_region 1 with (fail)
 refine bD ?_
 intro gg
 go_wp2_with fail
 rcases aL (cV b)with h1 | h1
 all_goals
  refine(aD (g:=gg) (gJ h1 gg.W)).mono ?_
  rintro _ _ ⟨rfl,gg,rfl⟩
 ·rcases da s 0 with h2 | h2
  ·have h3:¬0<=s:=by omega
   go_wp2_with fail
   go_ret
   exact⟨aC (by simp[dcB,h1,h3] <;> (intros;omega)),gout _⟩
  ·have h3:¬s<0:=by omega
   rcases l with _ | ⟨y,r⟩
   all_goals
    (try have h6:((r.length:Int)+1==0)=J:=by simp;omega)
    go_wp2_with fail
    go_ret
    exact⟨aC (by simp[dcB,h1,h2];try omega),gout _⟩
 ·go_wp2_with fail
  go_ret
  exact⟨aC (by simp[dcB,h1]),gout _⟩
set_option maxRecDepth 100000 in
theorem declForm_k5 (b:ByteArray)(s:Int)(l:List Int){A:Option Addr}{c:Nat}(w:World):
 Calls aq 120 #[.agg #[.int .i64 5,.string b,.int .i64 s,.slice A l.length c]] w fun e' w'=>e'=.returned (.bool (dcB ⟨5,b,s,l⟩))/\Below w.heap.size w w':=by
 have gout:∀{o:Obj} (g:G (w.alloc o)),Below w.heap.size w g.W:=fun g=>((aj _ _).alloc (ak _) _).trans (g.below.mono (by simp))
 go_enter Tryz.func120,Tryz.ntmps120
 go_upto_region 1 with (fail)
 refine bD ?_
 intro gg
 go_wp2_with fail
 rcases aL (cV b)with h1 | h1
 all_goals
  refine(aD (g:=gg) (gJ h1 gg.W)).mono ?_
  rintro _ _ ⟨rfl,gg,rfl⟩
 ·rcases da s 0 with h2 | h2
  ·have h3:¬0<=s:=by omega
   go_wp2_with fail
   go_ret
   exact⟨aC (by simp[dcB,h1,h3] <;> (intros;omega)),gout _⟩
  ·have h3:¬s<0:=by omega
   rcases l with _ | ⟨y,r⟩
   all_goals
    (try have h6:((r.length:Int)+1==0)=J:=by simp;omega)
    go_wp2_with fail
    go_ret
    exact⟨aC (by simp[dcB,h1,h2];try omega),gout _⟩
 ·go_wp2_with fail
  go_ret
  exact⟨aC (by simp[dcB,h1]),gout _⟩
theorem declForm_calls (x:S70)(A:Option Addr)(c:Nat)(w:World):Calls aq 120 #[.agg #[.int .i64 x.f0,.string x.f1,.int .i64 x.f2,.slice A x.f3.length c]] w fun e' w'=>e'=.returned (.bool (dcB x))/\Below w.heap.size w w':=by
 obtain⟨a,b,s,l⟩:=x
 rcases kinds5 a with h | ⟨h,h'⟩ | rfl | rfl | rfl | rfl | rfl
 ·exact declForm_klt a h b s l w
 ·exact declForm_kgt a h h' b s l w
 ·exact declForm_k1 b s l w
 ·exact declForm_k2 b s l w
 ·exact declForm_k3 b s l w
 ·exact declForm_k4 b s l w
 ·exact declForm_k5 b s l w
set_option maxRecDepth 100000 in
theorem sP (a:Int)(h1:a<1)(b:ByteArray)(s:Int)(l:List Int){A:Option Addr}{c:Nat}(w:World):
 Calls aq 125 #[.agg #[.int .i64 a,.string b,.int .i64 s,.slice A l.length c]] w fun e' w'=>e'=.returned (.bool (dcB ⟨a,b,s,l⟩))/\Below w.heap.size w w':=by
 have gout:∀{o:Obj} (g:G (w.alloc o)),Below w.heap.size w g.W:=fun g=>((aj _ _).alloc (ak _) _).trans (g.below.mono (by simp))
 have h0:dcB ⟨a,b,s,l⟩=J:=by simp[dcB];omega
 rw[h0]
 clear h0
 go_enter Tryz.func125,Tryz.ntmps125
 go_upto_region 1 with (fail)
 refine bD ?_
 intro gg
 go_wp2_with fail
 go_ret
 exact⟨aC (by simp),gout _⟩
set_option maxRecDepth 100000 in
theorem rD (a:Int)(h1:¬a<1)(h2:a > 5)(b:ByteArray)(s:Int)(l:List Int){A:Option Addr}{c:Nat}(w:World):
 Calls aq 125 #[.agg #[.int .i64 a,.string b,.int .i64 s,.slice A l.length c]] w fun e' w'=>e'=.returned (.bool (dcB ⟨a,b,s,l⟩))/\Below w.heap.size w w':=by
 have gout:∀{o:Obj} (g:G (w.alloc o)),Below w.heap.size w g.W:=fun g=>((aj _ _).alloc (ak _) _).trans (g.below.mono (by simp))
 have h0:dcB ⟨a,b,s,l⟩=J:=by simp[dcB];omega
 rw[h0]
 clear h0
 go_enter Tryz.func125,Tryz.ntmps125
 go_upto_region 1 with (fail)
 refine bD ?_
 intro gg
 go_wp2_with fail
 go_ret
 exact⟨aC (by simp),gout _⟩
set_option maxRecDepth 100000 in
theorem refDeclForm_k1 (b:ByteArray)(s:Int)(l:List Int){A:Option Addr}{c:Nat}(w:World):
 Calls aq 125 #[.agg #[.int .i64 1,.string b,.int .i64 s,.slice A l.length c]] w fun e' w'=>e'=.returned (.bool (dcB ⟨1,b,s,l⟩))/\Below w.heap.size w w':=by
 have gout:∀{o:Obj} (g:G (w.alloc o)),Below w.heap.size w g.W:=fun g=>((aj _ _).alloc (ak _) _).trans (g.below.mono (by simp))
 go_enter Tryz.func125,Tryz.ntmps125
 go_upto_region 1 with (fail)
 refine bD ?_
 intro gg
 go_wp2_with fail
 rcases aL (cV b)with h1 | h1
 all_goals
  refine(aD (g:=gg) (dV h1 gg.W)).mono ?_
  rintro _ _ ⟨rfl,gg,rfl⟩
 ·rcases da s 0 with h2 | h2
  ·have h3:¬0<=s:=by omega
   go_wp2_with fail
   go_ret
   exact⟨aC (by simp[dcB,h1,h3] <;> (intros;omega)),gout _⟩
  ·have h3:¬s<0:=by omega
   rcases l with _ | ⟨y,r⟩
   all_goals
    (try have h6:((r.length:Int)+1==0)=J:=by simp;omega)
    go_wp2_with fail
    go_ret
    exact⟨aC (by simp[dcB,h1,h2];try omega),gout _⟩
 ·go_wp2_with fail
  go_ret
  exact⟨aC (by simp[dcB,h1]),gout _⟩
set_option maxRecDepth 100000 in
theorem refDeclForm_k2 (b:ByteArray)(s:Int)(l:List Int){A:Option Addr}{c:Nat}(w:World):
 Calls aq 125 #[.agg #[.int .i64 2,.string b,.int .i64 s,.slice A l.length c]] w fun e' w'=>e'=.returned (.bool (dcB ⟨2,b,s,l⟩))/\Below w.heap.size w w':=by
 have gout:∀{o:Obj} (g:G (w.alloc o)),Below w.heap.size w g.W:=fun g=>((aj _ _).alloc (ak _) _).trans (g.below.mono (by simp))
 go_enter Tryz.func125,Tryz.ntmps125
 go_upto_region 1 with (fail)
 refine bD ?_
 intro gg
 go_wp2_with fail
 rcases aL (cV b)with h1 | h1
 all_goals
  refine(aD (g:=gg) (dV h1 gg.W)).mono ?_
  rintro _ _ ⟨rfl,gg,rfl⟩
 ·rcases da s 0 with h2 | h2
  ·have h3:¬0<=s:=by omega
   go_wp2_with fail
   go_ret
   exact⟨aC (by simp[dcB,h1,h3] <;> (intros;omega)),gout _⟩
  ·have h3:¬s<0:=by omega
   rcases l with _ | ⟨y,r⟩
   all_goals
    (try have h6:((r.length:Int)+1==0)=J:=by simp;omega)
    go_wp2_with fail
    go_ret
    exact⟨aC (by simp[dcB,h1,h2];try omega),gout _⟩
 ·go_wp2_with fail
  go_ret
  exact⟨aC (by simp[dcB,h1]),gout _⟩
set_option maxRecDepth 100000 in
theorem refDeclForm_k3 (b:ByteArray)(s:Int)(l:List Int){A:Option Addr}{c:Nat}(w:World):
 Calls aq 125 #[.agg #[.int .i64 3,.string b,.int .i64 s,.slice A l.length c]] w fun e' w'=>e'=.returned (.bool (dcB ⟨3,b,s,l⟩))/\Below w.heap.size w w':=by
 have gout:∀{o:Obj} (g:G (w.alloc o)),Below w.heap.size w g.W:=fun g=>((aj _ _).alloc (ak _) _).trans (g.below.mono (by simp))
 go_enter Tryz.func125,Tryz.ntmps125
 go_upto_region 1 with (fail)
 refine bD ?_
 intro gg
 go_wp2_with fail
 rcases aL (cV b)with h1 | h1
 all_goals
  refine(aD (g:=gg) (dV h1 gg.W)).mono ?_
  rintro _ _ ⟨rfl,gg,rfl⟩
 ·rcases da s 0 with h2 | h2
  ·have h3:¬0<=s:=by omega
   go_wp2_with fail
   go_ret
   exact⟨aC (by simp[dcB,h1,h3] <;> (intros;omega)),gout _⟩
  ·have h3:¬s<0:=by omega
   rcases da 0 s with h4 | h4
   ·rcases l with _ | ⟨y,r⟩
    all_goals
     go_wp2_with fail
     go_ret
     exact⟨aC (by simp[dcB,h1,h2,h4]),gout _⟩
   ·have h5:¬0<s:=by omega
    rcases l with _ | ⟨y,r⟩
    all_goals
     go_wp2_with fail
     go_ret
     exact⟨aC (by simp[dcB,h1,h2,h5]),gout _⟩
 ·go_wp2_with fail
  go_ret
  exact⟨aC (by simp[dcB,h1]),gout _⟩
set_option maxRecDepth 100000 in
theorem refDeclForm_k4 (b:ByteArray)(s:Int)(l:List Int){A:Option Addr}{c:Nat}(w:World):
 Calls aq 125 #[.agg #[.int .i64 4,.string b,.int .i64 s,.slice A l.length c]] w fun e' w'=>e'=.returned (.bool (dcB ⟨4,b,s,l⟩))/\Below w.heap.size w w':=by
 have gout:∀{o:Obj} (g:G (w.alloc o)),Below w.heap.size w g.W:=fun g=>((aj _ _).alloc (ak _) _).trans (g.below.mono (by simp))
 go_enter Tryz.func125,Tryz.ntmps125
 go_upto_region 1 with (fail)
 refine bD ?_
 intro gg
 go_wp2_with fail
 rcases aL (cV b)with h1 | h1
 all_goals
  refine(aD (g:=gg) (dV h1 gg.W)).mono ?_
  rintro _ _ ⟨rfl,gg,rfl⟩
 ·rcases da s 0 with h2 | h2
  ·have h3:¬0<=s:=by omega
   go_wp2_with fail
   go_ret
   exact⟨aC (by simp[dcB,h1,h3] <;> (intros;omega)),gout _⟩
  ·have h3:¬s<0:=by omega
   rcases l with _ | ⟨y,r⟩
   all_goals
    (try have h6:((r.length:Int)+1==0)=J:=by simp;omega)
    go_wp2_with fail
    go_ret
    exact⟨aC (by simp[dcB,h1,h2];try omega),gout _⟩
 ·go_wp2_with fail
  go_ret
  exact⟨aC (by simp[dcB,h1]),gout _⟩
set_option maxRecDepth 100000 in
theorem refDeclForm_k5 (b:ByteArray)(s:Int)(l:List Int){A:Option Addr}{c:Nat}(w:World):
 Calls aq 125 #[.agg #[.int .i64 5,.string b,.int .i64 s,.slice A l.length c]] w fun e' w'=>e'=.returned (.bool (dcB ⟨5,b,s,l⟩))/\Below w.heap.size w w':=by
 have gout:∀{o:Obj} (g:G (w.alloc o)),Below w.heap.size w g.W:=fun g=>((aj _ _).alloc (ak _) _).trans (g.below.mono (by simp))
 go_enter Tryz.func125,Tryz.ntmps125
 go_upto_region 1 with (fail)
 refine bD ?_
 intro gg
 go_wp2_with fail
 rcases aL (cV b)with h1 | h1
 all_goals
  refine(aD (g:=gg) (dV h1 gg.W)).mono ?_
  rintro _ _ ⟨rfl,gg,rfl⟩
 ·rcases da s 0 with h2 | h2
  ·have h3:¬0<=s:=by omega
   go_wp2_with fail
   go_ret
   exact⟨aC (by simp[dcB,h1,h3] <;> (intros;omega)),gout _⟩
  ·have h3:¬s<0:=by omega
   rcases l with _ | ⟨y,r⟩
   all_goals
    (try have h6:((r.length:Int)+1==0)=J:=by simp;omega)
    go_wp2_with fail
    go_ret
    exact⟨aC (by simp[dcB,h1,h2];try omega),gout _⟩
 ·go_wp2_with fail
  go_ret
  exact⟨aC (by simp[dcB,h1]),gout _⟩
theorem oZ (x:S70)(A:Option Addr)(c:Nat)(w:World):Calls aq 125 #[.agg #[.int .i64 x.f0,.string x.f1,.int .i64 x.f2,.slice A x.f3.length c]] w fun e' w'=>e'=.returned (.bool (dcB x))/\Below w.heap.size w w':=by
 obtain⟨a,b,s,l⟩:=x
 rcases kinds5 a with h | ⟨h,h'⟩ | rfl | rfl | rfl | rfl | rfl
 ·exact sP a h b s l w
 ·exact rD a h h' b s l w
 ·exact refDeclForm_k1 b s l w
 ·exact refDeclForm_k2 b s l w
 ·exact refDeclForm_k3 b s l w
 ·exact refDeclForm_k4 b s l w
 ·exact refDeclForm_k5 b s l w
end
section
attribute [local go_sem] G.cell
def dP (nm:ByteArray)(wd ln:Int)(ds:List S70)(bd:List S119):Bool:=cV nm&&decide (0<=wd)&&decide (0<=ln)&&(ds.all dcB&&bdB bd)
section
variable {nm:ByteArray}{wd ln:Int}{ds:List S70}{bd:List S119}
theorem form_no1 (h:cV nm=J):dP nm wd ln ds bd=J:=by unfold dP;rw[h];rfl
theorem form_no2 (h:wd<0):dP nm wd ln ds bd=J:=by unfold dP;rw[decide_eq_false (show ¬0<=wd by omega)];simp
theorem form_no3 (h:ln<0):dP nm wd ln ds bd=J:=by unfold dP;rw[decide_eq_false (show ¬0<=ln by omega)];simp
theorem form_yes (h1:cV nm=ac)(h2:0<=wd)(h3:0<=ln):dP nm wd ln ds bd=(ds.all dcB&&bdB bd):=by unfold dP;rw[h1,decide_eq_true h2,decide_eq_true h3];simp
end
theorem nJ {l:List S70}{y:S70}(h:y∈l)(hn:dcB y=J):l.all dcB=J:=by
 rw[List.all_eq_false]
 exact⟨y,h,by rw[hn];decide⟩
theorem eM {l:List S70}{k:Nat}(hlt:k<l.length):aI l (k:Int)∈l:=by
 unfold aI;rw[aw,av,ax hlt];exact fg _
theorem rA {l:List S70}(h:∀j,j<l.length->dcB (aI l (j:Int))=ac):l.all dcB=ac:=by
 rw[fe]
 intro y hy
 obtain⟨j,hj,rfl⟩:=gn hy
 have:=h j hj
 unfold aI at this
 rwa [aw,av,ax hj]at this
set_option maxRecDepth 100000 in
theorem Form_walk (nm:ByteArray)(wd ln:Int)(ds:List S70)(bd:List S119)(A3:Option Addr)(c3:Nat)(A4:Option Addr)(c4:Nat)(w:World)(hd:k70.C w A3 ds.length ds)(hld:ds.length<=c3)(hb:dN.C w A4 bd.length bd)(hlb:bd.length<=c4):
 Calls aq 75 #[.agg #[.string nm,.int .i64 wd,.int .i64 ln,.slice A3 ds.length c3,.slice A4 bd.length c4]] w fun e w'=>e=.returned (.bool (dP nm wd ln ds bd))/\Below w.heap.size w w':=by
 have gout:∀{o:Obj} (g:G (w.alloc o)),Below w.heap.size w g.W:=fun g=>((aj _ _).alloc (ak _) _).trans (g.below.mono (by simp))
 have goutA:∀{o:Obj} (g:G (w.alloc o)) (o':Obj),Below w.heap.size w (g.W.alloc o'):=fun g o'=>(gout g).alloc (gout g).size o'
 have hlm:=hd.2.1
 have HD:=I hd
 have HB:=I hb
 have HLB:=I hlb
 clear hd hb hlb
 go_enter Tryz.func75,Tryz.ntmps75
 go_upto_region 1 with (fail)
 refine bD ?_
 intro gg
 go_wp2_with fail
 rcases aL (cV nm)with h1 | h1
 all_goals
  refine(aD (g:=gg) (gJ h1 gg.W)).mono ?_
  rintro _ _ ⟨rfl,gg,rfl⟩
 ·rcases da wd 0 with h2 | h2
  ·go_wp2_with fail
   go_ret
   exact⟨aC (form_no2 h2).symm,gout _⟩
  rcases da ln 0 with h3 | h3
  ·have h2':¬wd<0:=by omega
   go_wp2_with fail
   go_ret
   exact⟨aC (form_no3 h3).symm,gout _⟩
  ·have h2':¬wd<0:=by omega
   have h3':¬ln<0:=by omega
   have FY:=I (form_yes (ds:=ds) (bd:=bd) h1 h2 h3)
   clear h2 h3
   go_wp2
   clear h1 h2' h3'
   go_loopw [22] (fun i W=>∃(k:Nat) (g:G (gw gg)),i=.int .i64 k/\W=g.W/\k<=ds.length/\Aside0 (∀j,j<k->dcB (aI ds (j:Int))=ac)) (fun i _=>ds.length - (intOf i).toNat)
   case atStart=>exact⟨0,gg,rfl,rfl,bh _,⟨fun j hj=>absurd hj (cw _)⟩⟩
   case round=>
    obtain⟨k,g,rfl,rfl,hk,HK⟩:=hrel
    by_cases hlt:k<ds.length
    ·obtain⟨ad,A3',c3',e1,q0,q1,q2,q3,l3,g3⟩:=eD HD.out (k:Int) (bg _) (by omega)
     cases e1
     rw[aw]at q0 q1 q2 q3
     replace q0:=((gout g).cell (ar w _ q0)).trans q0
     replace q1:=((gout g).cell (ar w _ q1)).trans q1
     replace q2:=((gout g).cell (ar w _ q2)).trans q2
     replace q3:=((gout g).cell (ar w _ q3)).trans q3
     have hi1:(k:Int)<(ds.length:Int):=by omega
     have MEM:=I (eM hlt)
     rcases aL (dcB (aI ds (k:Int)))with hy | hy
     all_goals
      have HY:=I hy
      clear hy
      go_wp2_with fail
      refine(cS (g:=g) (declForm_calls (aI ds (k:Int)) A3' c3' _)).mono ?_
      rw[HY.out]
      rintro _ _ ⟨rfl,gg,rfl⟩
      go_wp2
     ·refine⟨⟨k+1,gg,by go_num,rfl,by omega,⟨fun j hj=> ?_⟩⟩,by simp[intOf];omega⟩
      by_cases hj2:j=k
      ·rw[hj2];exact HY.out
      ·exact HK.out j (by omega)
     ·go_ret
      exact⟨aC (by rw[FY.out,nJ MEM.out HY.out];rfl),gout _⟩
    ·have hall:=I (rA (fun j hj=>HK.out j (by omega)))
     clear HK
     go_wp2_with fail
     refine(aD (g:=g) (bodyForm_calls bd A4 c4 _ (Kd.aF HB.out (gout g)) HLB.out)).mono ?_
     rintro _ _ ⟨rfl,gg,rfl⟩
     go_wp2
     go_ret
     exact⟨aC (by rw[FY.out,hall.out];rfl),gout _⟩
 ·go_wp2_with fail
  go_ret
  exact⟨aC (form_no1 h1).symm,gout _⟩
set_option maxRecDepth 100000 in
theorem refForm_walk (nm:ByteArray)(wd ln:Int)(ds:List S70)(bd:List S119)(A3:Option Addr)(c3:Nat)(A4:Option Addr)(c4:Nat)(w:World)(hd:k70.C w A3 ds.length ds)(hld:ds.length<=c3)(hb:dN.C w A4 bd.length bd)(hlb:bd.length<=c4):
 Calls aq 78 #[.agg #[.string nm,.int .i64 wd,.int .i64 ln,.slice A3 ds.length c3,.slice A4 bd.length c4]] w fun e w'=>e=.returned (.bool (dP nm wd ln ds bd))/\Below w.heap.size w w':=by
 have gout:∀{o:Obj} (g:G (w.alloc o)),Below w.heap.size w g.W:=fun g=>((aj _ _).alloc (ak _) _).trans (g.below.mono (by simp))
 have goutA:∀{o:Obj} (g:G (w.alloc o)) (o':Obj),Below w.heap.size w (g.W.alloc o'):=fun g o'=>(gout g).alloc (gout g).size o'
 have hlm:=hd.2.1
 have HD:=I hd
 have HB:=I hb
 have HLB:=I hlb
 clear hd hb hlb
 go_enter Tryz.func78,Tryz.ntmps78
 go_upto_region 1 with (fail)
 refine bD ?_
 intro gg
 go_wp2_with fail
 rcases aL (cV nm)with h1 | h1
 all_goals
  refine(aD (g:=gg) (dV h1 gg.W)).mono ?_
  rintro _ _ ⟨rfl,gg,rfl⟩
 ·rcases da wd 0 with h2 | h2
  ·go_wp2_with fail
   go_ret
   exact⟨aC (form_no2 h2).symm,gout _⟩
  rcases da ln 0 with h3 | h3
  ·have h2':¬wd<0:=by omega
   go_wp2_with fail
   go_ret
   exact⟨aC (form_no3 h3).symm,gout _⟩
  ·have h2':¬wd<0:=by omega
   have h3':¬ln<0:=by omega
   have FY:=I (form_yes (ds:=ds) (bd:=bd) h1 h2 h3)
   clear h2 h3
   go_wp2
   clear h1 h2' h3'
   go_loopw [3] (fun i W=>∃(k:Nat) (g:G (gw gg)),i=.int .i64 k/\W=g.W/\k<=ds.length/\Aside0 (∀j,j<k->dcB (aI ds (j:Int))=ac)) (fun i _=>ds.length - (intOf i).toNat)
   case atStart=>exact⟨0,gg,rfl,rfl,bh _,⟨fun j hj=>absurd hj (cw _)⟩⟩
   case round=>
    obtain⟨k,g,rfl,rfl,hk,HK⟩:=hrel
    by_cases hlt:k<ds.length
    ·obtain⟨ad,A3',c3',e1,q0,q1,q2,q3,l3,g3⟩:=eD HD.out (k:Int) (bg _) (by omega)
     cases e1
     rw[aw]at q0 q1 q2 q3
     replace q0:=((gout g).cell (ar w _ q0)).trans q0
     replace q1:=((gout g).cell (ar w _ q1)).trans q1
     replace q2:=((gout g).cell (ar w _ q2)).trans q2
     replace q3:=((gout g).cell (ar w _ q3)).trans q3
     have hi1:(k:Int)<(ds.length:Int):=by omega
     have MEM:=I (eM hlt)
     rcases aL (dcB (aI ds (k:Int)))with hy | hy
     all_goals
      have HY:=I hy
      clear hy
      go_wp2_with fail
      refine(aD (g:=g) (oZ (aI ds (k:Int)) A3' c3' _)).mono ?_
      rw[HY.out]
      rintro _ _ ⟨rfl,gg,rfl⟩
      go_wp2
     ·refine⟨⟨k+1,gg,by go_num,rfl,by omega,⟨fun j hj=> ?_⟩⟩,by simp[intOf];omega⟩
      by_cases hj2:j=k
      ·rw[hj2];exact HY.out
      ·exact HK.out j (by omega)
     ·go_ret
      exact⟨aC (by rw[FY.out,nJ MEM.out HY.out];rfl),gout _⟩
    ·have hall:=I (rA (fun j hj=>HK.out j (by omega)))
     clear HK
     go_wp2_with fail
     refine(aD (g:=g) (qU bd A4 c4 _ (Kd.aF HB.out (gout g)) HLB.out)).mono ?_
     rintro _ _ ⟨rfl,gg,rfl⟩
     go_wp2
     go_ret
     exact⟨aC (by rw[FY.out,hall.out];rfl),gout _⟩
 ·go_wp2_with fail
  go_ret
  exact⟨aC (form_no1 h1).symm,gout _⟩
end
section
attribute [local go_sem] G.cell
mutual
def gP:S116->Nat
 | ⟨_,_,_,l⟩=>jJ l+1
def jJ:List S116->Nat
 | []=>0
 |x::r=>max (gP x) (jJ r)
end
theorem qG (x:S116):gP x=jJ x.f3+1:=by
 obtain⟨a,b,s,l⟩:=x
 rw[gP]
theorem rL (l:List S116)(x:S116):jJ (l++[x])=max (jJ l) (gP x):=by
 induction l with
 |nil=>simp[jJ]
 |cons y r ih=>rw[gu,jJ,ih,jJ];omega
theorem deepL_mem {l:List S116}{x:S116}(h:x∈l):gP x<=jJ l:=by
 induction l with
 |nil=>cases h
 |cons y r ih=>
  rw[jJ]
  rcases ig.1 h with rfl | h
  ·omega
  ·have:=ih h;omega
theorem dS {l:List S116}{k:Nat}(hlt:k<l.length):l.take (k+1)=l.take k++[bU l (k:Int)]:=by
 unfold bU
 rw[aw,av,ax hlt,List.take_add_one,ax hlt]
 rfl
theorem hO {l:List S116}{k:Nat}(hlt:k<l.length):bU l (k:Int)∈l:=by
 unfold bU;rw[aw,av,ax hlt];exact fg _
theorem fF {l:List S116}{x:S116}{n:Nat}(hx:x.f3=l){y:S116}(hy:y∈l)(h:cq x<=n+1):cq y<=n:=by
 have:=fw hy
 obtain⟨a,b,c,l⟩:=x
 simp at h hx
 subst hx
 omega
theorem lS {n:Nat}(h:n<9223372036854775807):wrap64 ((n:Int)+1)=((n+1:Nat):Int):=by unfold wrap64;omega
abbrev gw0 {w:World}(_:G w):World:=w
theorem aG {P:Program}{c:Code}{Q:Exit->Act->World->Prop}{a:Act}{w:World}(h:∀g:G w,c.wp P Q a g.W):c.wp P Q a w:=h ⟨w,aj _ _⟩
def pQ (f:FuncId)(x:S116)(r:Int):Prop:=∀(A:Option Addr) (c:Nat) (w:World),dA.C w A x.f3.length x.f3->x.f3.length<=c->
 Calls aq f #[.agg #[.int .i64 x.f0,.int .u64 x.f1,.string x.f2,.slice A x.f3.length c]] w fun e w'=>e=.returned (.int .i64 r)/\Below w.heap.size w w'
set_option maxRecDepth 100000 in
theorem deep_walk (x:S116)(hb:gP x<=1099511627776)(ih:∀y∈x.f3,pQ 245 y (gP y)):pQ 245 x (gP x):=by
 intro A c w hc hl
 have gout:∀{o:Obj} (g:G (w.alloc o)),Below w.heap.size w g.W:=fun g=>((aj _ _).alloc (ak _) _).trans (g.below.mono (by simp))
 rw[qG]at hb ⊢
 obtain⟨x0,x1,x2,l⟩:=x
 simp only at*
 have IH:=I ih
 have HC:=I hc
 have HB:=I hb
 have hlm:=hc.2.1
 clear ih hc hb
 go_enter Tryz.func245,Tryz.ntmps245
 go_upto_region 1 with (fail)
 refine aG ?_
 intro gg
 go_wp2
 go_loopw [4,3] (fun i n W=>∃(k:Nat) (g:G (gw0 gg)),i=.int .i64 k/\n=.int .i64 (jJ (l.take k))/\W=g.W/\k<=l.length) (fun i n _=>l.length - (intOf i).toNat)
 case atStart=>exact⟨0,gg,rfl,rfl,rfl,bh _⟩
 case round=>
  obtain⟨k,g,rfl,rfl,rfl,hk⟩:=hrel
  by_cases hlt:k<l.length
  ·obtain⟨ad,A3,c3,e1,q0,q1,q2,q3,l3,g3⟩:=iL HC.out (k:Int) (bg _) (by omega)
   cases e1
   rw[aw]at q0 q1 q2 q3
   replace q0:=((gout g).cell (ar w _ q0)).trans q0
   replace q1:=((gout g).cell (ar w _ q1)).trans q1
   replace q2:=((gout g).cell (ar w _ q2)).trans q2
   replace q3:=((gout g).cell (ar w _ q3)).trans q3
   have hi1:(k:Int)<(l.length:Int):=by omega
   have G3:=I g3
   have L3:=I l3
   clear g3 l3
   have MEM:=I (hO hlt)
   have T:=I (congrArg jJ (dS hlt))
   go_wp2_with fail
   refine(aD (g:=g) (IH.out _ MEM.out A3 c3 g.W (Kd.aF G3.out (gout g)) L3.out)).mono ?_
   rintro _ _ ⟨rfl,gg2,rfl⟩
   rcases gh (jJ (l.take k)) (gP (bU l (k:Int)))with h | h
   ·have h2:(jJ (l.take k):Int)<(gP (bU l (k:Int)):Int):=by omega
    go_wp2_with fail
    have T2:=T.out
    rw[rL]at T2
    exact⟨⟨k+1,gg2,by go_num,by rw[T2,Nat.max_eq_right (Nat.le_of_lt h)],rfl,by omega⟩,by simp[intOf];omega⟩
   ·have h2:¬(jJ (l.take k):Int)<(gP (bU l (k:Int)):Int):=by omega
    go_wp2_with fail
    have T2:=T.out
    rw[rL]at T2
    exact⟨⟨k+1,gg2,by go_num,by rw[T2,Nat.max_eq_left h],rfl,by omega⟩,by simp[intOf];omega⟩
  ·have W:=I (lS (n:=jJ l) (by have:=HB.out;omega))
   go_wp2_with fail
   go_ret
   refine⟨?_,gout g⟩
   rw[show k=l.length by omega,du,W.out]
   rfl
theorem deep_calls:∀(n:Nat) (x:S116),cq x<=n->gP x<=1099511627776->pQ 245 x (gP x):=by
 intro n
 induction n with
 |zero=>intro x h;obtain⟨a,b,c,l⟩:=x;simp at h
 |succ n ih=>
  intro x h hb
  exact deep_walk x hb fun y hy=>ih y (fF rfl hy h) (by have:=deepL_mem hy;rw[qG]at hb;omega)
end
end Go.Proofs.YtfigjpehecibeaaGreat.L
namespace Go.Proofs.YtfigjpehecibeaaGreat.L
open Go.RowKit Go.Proofs.YtfigjpehecibeaaGreatW.PrintWords Go.Proofs.YtfigjpehecibeaaGreatW.PrintLast Go.Proofs.YtfigjpehecibeaaGreatW.PrintMore
section
attribute [local go_sem] jT iA lW j7 iI iG jM jU
def cadenceref16_power.l0:Nat->Int->Int->Option (Bool)
 |0,_,_=>ai
 |k+1,x0,x3=>if x3<=256 then(if x0=x3 then(af ac)else(cadenceref16_power.l0 k x0 (IntKind.u64.wrap (2*x3))))else(af J)
def cadenceref16_power.f (k:Nat)(a0:Int):Option (Bool):=cadenceref16_power.l0 k a0 1
set_option maxRecDepth 100000 in
theorem cadenceref16_power.calls (k:Nat)(a0:Int)(r:Bool)(w:World)(h:cadenceref16_power.f k a0=af r):
 Calls aq 224 #[.int .u64 a0] w fun e w'=>e=.returned (.bool r)/\Drawn0 w w':=by
 have H:(cadenceref16_power.l0 k a0 1)=af r:=h
 clear h
 have H':=I H
 clear H
 go_enter Tryz.func224,Tryz.ntmps224
 go_wp2
 go_loopg [3] k (fun kq v3 w'=>∃(x3_1:Int),v3=.int .u64 x3_1/\Aside0 (cadenceref16_power.l0 kq a0 x3_1=af r)/\Aside0 (kq<=k)/\Drawn0 w w')
 case atStart=>exact⟨(1),(by first | rfl | (simp;done) | (simp[*];done)),H',⟨ak _⟩,by repeat(first | exact dh _ | apply di)⟩
 case round=>
  clear H'
  obtain⟨x3_1,rfl,HA,HK1,⟨m1,rfl⟩⟩:=hrel
  cases gk with
  |zero=>exact absurd HA.out (by simp[cadenceref16_power.l0])
  |succ k1=>
   have H:=HA.out
   clear HA
   simp only[cadenceref16_power.l0]at H
   by_cases c2:x3_1<=256
   ·rw[if_pos c2]at H
    have c2b0:decide (x3_1<=256)=ac:=decide_eq_true c2
    clear c2
    by_cases c3:a0=x3_1
    ·rw[if_pos c3]at H
     have c3b0:(a0==x3_1)=ac:=beq_iff_eq.mpr c3
     have c3b1:(a0 != x3_1)=J:=bne_eq_false_iff_eq.mpr c3
     clear c3
     obtain rfl:=ck H
     go_wp2
     go_ret
     exact⟨by first | rfl | (simp;done) | (simp[*];done),by repeat(first | exact dh _ | apply di)⟩
    ·rw[if_neg c3]at H
     have c3b0:(a0==x3_1)=J:=beq_eq_false_iff_ne.mpr c3
     have c3b1:(a0 != x3_1)=ac:=bne_iff_ne.mpr c3
     have H':=I H
     clear H
     go_wp2
     go_roundg k1
     case measure=>have:=HK1.out;omega
     case rel=>exact⟨(IntKind.u64.wrap (2*x3_1)),(by first | rfl | (simp;done) | (simp[*];done)),H',⟨by have:=HK1.out;omega⟩,by repeat(first | exact dh _ | apply di)⟩
   ·rw[if_neg c2]at H
    have c2b0:decide (x3_1<=256)=J:=decide_eq_false c2
    clear c2
    obtain rfl:=ck H
    go_wp2
    go_ret
    exact⟨by first | rfl | (simp;done) | (simp[*];done),by repeat(first | exact dh _ | apply di)⟩
def cadenceref16_Words.f (a0_0:Int)(a0_1:ByteArray)(a0_2:Int)(l0_3:List Int):Option (Int):=if a0_2=0 then(af 1)else(af a0_2)
set_option maxRecDepth 100000 in
theorem cadenceref16_Words.calls (a0_0:Int)(a0_1:ByteArray)(a0_2:Int)(A0_3:Option Addr)(c0_3:Nat)(l0_3:List Int)(r:Int)(w:World)(hr0_3:Kd.C (Kd.int .u64) w A0_3 l0_3.length l0_3)(hc0_3:l0_3.length<=c0_3)(h:cadenceref16_Words.f a0_0 a0_1 a0_2 l0_3=af r):
 Calls aq 56 #[.agg #[.int .i64 a0_0,.string a0_1,.int .i64 a0_2,.slice A0_3 l0_3.length c0_3]] w fun e w'=>e=.returned (.int .i64 r)/\Below w.heap.size w w':=by
 have H:=I h
 clear h hr0_3 hc0_3
 go_enter Tryz.func56,Tryz.ntmps56
 go_wp2
 all_goals(
  go_ret
  have h:=H.out
  unfold cadenceref16_Words.f at h
  refine⟨?_,by first | exact(aj _ _).alloc (ak _) _ | exact aj _ _ | (repeat(first | exact dh _ | apply di))⟩
  simp_all)
def cadenceref16_Decl.l0:Nat->ByteArray->Int->ByteArray->Int->Int->List (S70)->List (S119)->Option (Int)
 |0,_,_,_,_,_,_,_=>ai
 |k+1,x1,x5,x167000,x167001,x167002,x167003,x167004=>if x5<(x167003.length:Int)then(if 0<=x5 then(if((aI x167003 x5).f1).toList=x1.toList then(af x5)else(cadenceref16_Decl.l0 k x1 (wrap64 (x5+1)) x167000 x167001 x167002 x167003 x167004))else(ai))else(af (-1))
def cadenceref16_Decl.f (k:Nat)(a0_0:ByteArray)(a0_1:Int)(a0_2:Int)(l0_3:List (S70))(l0_4:List (S119))(a1:ByteArray):Option (Int):=cadenceref16_Decl.l0 k a1 0 a0_0 a0_1 a0_2 l0_3 l0_4
set_option maxRecDepth 100000 in
theorem cadenceref16_Decl.calls (k:Nat)(a0_0:ByteArray)(a0_1:Int)(a0_2:Int)(A0_3:Option Addr)(c0_3:Nat)(l0_3:List (S70))(A0_4:Option Addr)(c0_4:Nat)(l0_4:List (S119))(a1:ByteArray)(r:Int)(w:World)(hr0_3:Kd.C k70 w A0_3 l0_3.length l0_3)(hc0_3:l0_3.length<=c0_3)(hr0_4:Kd.C dN w A0_4 l0_4.length l0_4)(hc0_4:l0_4.length<=c0_4)(h:cadenceref16_Decl.f k a0_0 a0_1 a0_2 l0_3 l0_4 a1=af r):
 Calls aq 225 #[.agg #[.string a0_0,.int .i64 a0_1,.int .i64 a0_2,.slice A0_3 l0_3.length c0_3,.slice A0_4 l0_4.length c0_4],.string a1] w fun e w'=>e=.returned (.int .i64 r)/\Below w.heap.size w w':=by
 have hu29:=Tryz.underlying25
 have HR0_3:=I hr0_3
 have HC0_3:=I hc0_3
 clear hr0_3 hc0_3
 have HR0_4:=I hr0_4
 have HC0_4:=I hc0_4
 clear hr0_4 hc0_4
 have HB:=I (aj w.heap.size w)
 have H:(cadenceref16_Decl.l0 k a1 0 a0_0 a0_1 a0_2 l0_3 l0_4)=af r:=h
 clear h
 have H':=I H
 clear H
 go_enter Tryz.func225,Tryz.ntmps225
 go_wp2_with (first | ((with_reducible refine qK (N:=2) rfl ?_);refine sQ ?hg (N:=2) ?hd (cs:= #[.string a0_0,.int .i64 a0_1,.int .i64 a0_2,.slice A0_3 l0_3.length c0_3,.slice A0_4 l0_4.length c0_4]) (t:=25) ?hr ?_;(case hd=>rfl);(case hg=>rfl);(case hr=>first | (go_simp;done) | (go_simp;rfl));intro gb166 hg w3 hbox hb;have n0_:=I (gW (by repeat(first | (with_reducible first | exact HB.out | apply aT | apply aO | apply aU) | exact HB.out)) hb);have n1_:=I (hbox);have n2_:=I ((by rw[hg];exact(gY (by repeat(first | (with_reducible first | exact HB.out | apply aT | apply aO | apply aU) | exact HB.out))):w.heap.size<=gb166));have n3_:=I ((by rw[hg];exact(gY (by repeat(first | (with_reducible first | exact HB.out | apply aT | apply aO | apply aU) | exact HB.out))):w.heap.size<=gb166));clear HB;have HB:=n0_;have BK166:=n1_;have GW166:=n2_;have GE166:=n3_;clear n0_ n1_ n2_ n3_;clear hb hbox hg))
 go_loopg [5] k (fun kq v5 w'=>∃(x5_1:Int),v5=.int .i64 x5_1/\Aside0 (cadenceref16_Decl.l0 kq a1 x5_1 a0_0 a0_1 a0_2 l0_3 l0_4=af r)/\Aside0 (kq<=k)/\Aside0 (w'.heap[gb166]? =af (.cells #[.string a0_0,.int .i64 a0_1,.int .i64 a0_2,(.slice A0_3 l0_3.length c0_3),(.slice A0_4 l0_4.length c0_4)] 25 (0,0)))/\Aside0 (Below w.heap.size w w'))
 case atStart=>exact⟨(0),(by first | rfl | (simp;done) | (simp[*];done)),H',⟨ak _⟩,⟨by(with_reducible repeat(first | refine blk_drewN ?_ _ | refine blk_drew ?_ | refine fA ?_ _));exact BK166.out⟩,⟨by repeat(first | (with_reducible first | exact HB.out | apply aT | apply aO | apply aU | refine kE ?_ GE166.out) | exact HB.out)⟩⟩
 case round=>
  clear H'
  try clear c2
  try clear p2
  obtain⟨x5_1,rfl,HA,HK1,BK166,HB⟩:=hrel
  cases gk with
  |zero=>exact absurd HA.out (by simp[cadenceref16_Decl.l0])
  |succ k1=>
   have H:=HA.out
   clear HA
   simp only[cadenceref16_Decl.l0]at H
   by_cases c4:x5_1<(l0_3.length:Int)
   ·rw[if_pos c4]at H
    have c4b0:decide (x5_1<(l0_3.length:Int))=ac:=decide_eq_true c4
    clear c4
    by_cases c5:0<=x5_1
    ·rw[if_pos c5]at H
     have c5b0:decide (0<=x5_1)=ac:=decide_eq_true c5
     clear c5
     by_cases c6:((aI l0_3 x5_1).f1).toList=a1.toList
     ·rw[if_pos c6]at H
      have c6b0:(((aI l0_3 x5_1).f1).toList==a1.toList)=ac:=beq_iff_eq.mpr c6
      have c6b1:(((aI l0_3 x5_1).f1).toList != a1.toList)=J:=bne_eq_false_iff_eq.mpr c6
      clear c6
      obtain rfl:=ck H
      have hcz7_0:wr.cell? ⟨gb166,0,ai⟩=af (.string a0_0):=(aA BK166.out 0).trans rfl
      have hcz7_1:wr.cell? ⟨gb166,1,ai⟩=af (.int .i64 a0_1):=(aA BK166.out 1).trans rfl
      have hcz7_2:wr.cell? ⟨gb166,2,ai⟩=af (.int .i64 a0_2):=(aA BK166.out 2).trans rfl
      have hcz7_3:wr.cell? ⟨gb166,3,ai⟩=af (.slice A0_3 l0_3.length c0_3):=(aA BK166.out 3).trans rfl
      have hcz7_4:wr.cell? ⟨gb166,4,ai⟩=af (.slice A0_4 l0_4.length c0_4):=(aA BK166.out 4).trans rfl
      have hfz7_0:=aH BK166.out 0
      have hfz7_1:=aH BK166.out 1
      have hfz7_2:=aH BK166.out 2
      have hfz7_3:=aH BK166.out 3
      have hfz7_4:=aH BK166.out 4
      have p167:0<=(x5_1:Int):=of_decide_eq_true (by first | (with_reducible assumption) | assumption)
      have q167:x5_1<(l0_3.length:Int):=of_decide_eq_true (by first | (with_reducible assumption) | assumption)
      obtain⟨ad167,A167_3,c167_3,e167,hx167_0,hx167_1,hx167_2,hx167_3,hl167_3,hi167_3⟩:=eD HR0_3.out x5_1 p167 q167
      cases e167
      replace hx167_0:=(HB.out.cell (ar w _ hx167_0)).trans hx167_0
      replace hx167_1:=(HB.out.cell (ar w _ hx167_1)).trans hx167_1
      replace hx167_2:=(HB.out.cell (ar w _ hx167_2)).trans hx167_2
      replace hx167_3:=(HB.out.cell (ar w _ hx167_3)).trans hx167_3
      have HR167_3:=I hi167_3
      have HC167_3:=I hl167_3
      clear hi167_3 hl167_3
      replace p167:=eq_true p167
      replace q167:=eq_true q167
      go_wp2
      go_ret
      exact⟨by first | rfl | (simp[bX,bW] <;> rfl) | (simp[*,bX,bW] <;> rfl),by repeat(first | (with_reducible first | exact HB.out | apply aT | apply aO | apply aU | refine kE ?_ GE166.out) | exact HB.out)⟩
     ·rw[if_neg c6]at H
      have c6b0:(((aI l0_3 x5_1).f1).toList==a1.toList)=J:=beq_eq_false_iff_ne.mpr c6
      have c6b1:(((aI l0_3 x5_1).f1).toList != a1.toList)=ac:=bne_iff_ne.mpr c6
      have H':=I H
      clear H
      have hcz8_0:wr.cell? ⟨gb166,0,ai⟩=af (.string a0_0):=(aA BK166.out 0).trans rfl
      have hcz8_1:wr.cell? ⟨gb166,1,ai⟩=af (.int .i64 a0_1):=(aA BK166.out 1).trans rfl
      have hcz8_2:wr.cell? ⟨gb166,2,ai⟩=af (.int .i64 a0_2):=(aA BK166.out 2).trans rfl
      have hcz8_3:wr.cell? ⟨gb166,3,ai⟩=af (.slice A0_3 l0_3.length c0_3):=(aA BK166.out 3).trans rfl
      have hcz8_4:wr.cell? ⟨gb166,4,ai⟩=af (.slice A0_4 l0_4.length c0_4):=(aA BK166.out 4).trans rfl
      have hfz8_0:=aH BK166.out 0
      have hfz8_1:=aH BK166.out 1
      have hfz8_2:=aH BK166.out 2
      have hfz8_3:=aH BK166.out 3
      have hfz8_4:=aH BK166.out 4
      have p167:0<=(x5_1:Int):=of_decide_eq_true (by first | (with_reducible assumption) | assumption)
      have q167:x5_1<(l0_3.length:Int):=of_decide_eq_true (by first | (with_reducible assumption) | assumption)
      obtain⟨ad167,A167_3,c167_3,e167,hx167_0,hx167_1,hx167_2,hx167_3,hl167_3,hi167_3⟩:=eD HR0_3.out x5_1 p167 q167
      cases e167
      replace hx167_0:=(HB.out.cell (ar w _ hx167_0)).trans hx167_0
      replace hx167_1:=(HB.out.cell (ar w _ hx167_1)).trans hx167_1
      replace hx167_2:=(HB.out.cell (ar w _ hx167_2)).trans hx167_2
      replace hx167_3:=(HB.out.cell (ar w _ hx167_3)).trans hx167_3
      have HR167_3:=I hi167_3
      have HC167_3:=I hl167_3
      clear hi167_3 hl167_3
      replace p167:=eq_true p167
      replace q167:=eq_true q167
      go_wp2
      go_roundg k1
      case measure=>have:=HK1.out;omega
      case rel=>exact⟨(wrap64 (x5_1+1)),(by first | rfl | (simp;done) | (simp[*];done)),H',⟨by have:=HK1.out;omega⟩,⟨by(with_reducible repeat(first | refine blk_drewN ?_ _ | refine blk_drew ?_ | refine fA ?_ _));exact BK166.out⟩,⟨by repeat(first | (with_reducible first | exact HB.out | apply aT | apply aO | apply aU | refine kE ?_ GE166.out) | exact HB.out)⟩⟩
    ·rw[if_neg c5]at H
     exact absurd H (by simp)
   ·rw[if_neg c4]at H
    have c4b0:decide (x5_1<(l0_3.length:Int))=J:=decide_eq_false c4
    clear c4
    obtain rfl:=ck H
    have hcz9_0:wr.cell? ⟨gb166,0,ai⟩=af (.string a0_0):=(aA BK166.out 0).trans rfl
    have hcz9_1:wr.cell? ⟨gb166,1,ai⟩=af (.int .i64 a0_1):=(aA BK166.out 1).trans rfl
    have hcz9_2:wr.cell? ⟨gb166,2,ai⟩=af (.int .i64 a0_2):=(aA BK166.out 2).trans rfl
    have hcz9_3:wr.cell? ⟨gb166,3,ai⟩=af (.slice A0_3 l0_3.length c0_3):=(aA BK166.out 3).trans rfl
    have hcz9_4:wr.cell? ⟨gb166,4,ai⟩=af (.slice A0_4 l0_4.length c0_4):=(aA BK166.out 4).trans rfl
    have hfz9_0:=aH BK166.out 0
    have hfz9_1:=aH BK166.out 1
    have hfz9_2:=aH BK166.out 2
    have hfz9_3:=aH BK166.out 3
    have hfz9_4:=aH BK166.out 4
    go_wp2
    go_ret
    exact⟨by first | rfl | (simp[bX,bW] <;> rfl) | (simp[*,bX,bW] <;> rfl),by repeat(first | (with_reducible first | exact HB.out | apply aT | apply aO | apply aU | refine kE ?_ GE166.out) | exact HB.out)⟩
def cadenceref16_fits.f (a0:Int)(a1:Int):Option (Bool):=if a0 ≥ 64 then(af ac)else(if 0<=(IntKind.u64.wrap (a0))then(af (decide (a1<(shl .u64 1 (IntKind.u64.wrap (a0))))))else(ai))
set_option maxRecDepth 100000 in
theorem cadenceref16_fits.calls (a0:Int)(a1:Int)(r:Bool)(w:World)(h:cadenceref16_fits.f a0 a1=af r):
 Calls aq 226 #[.int .i64 a0,.int .u64 a1] w fun e w'=>e=.returned (.bool r)/\Drawn0 w w':=by
 have H:(if a0 ≥ 64 then(af ac)else(if 0<=(IntKind.u64.wrap (a0))then(af (decide (a1<(shl .u64 1 (IntKind.u64.wrap (a0))))))else(ai)))=af r:=h
 clear h
 by_cases c3:a0 ≥ 64
 ·rw[if_pos c3]at H
  have c3b0:decide (64<=a0)=ac:=decide_eq_true c3
  clear c3
  obtain rfl:=ck H
  go_enter Tryz.func226,Tryz.ntmps226
  go_wp2
  go_ret
  exact⟨by first | rfl | (simp;done) | (simp[*];done),by repeat(first | exact dh _ | apply di)⟩
 ·rw[if_neg c3]at H
  have c3b0:decide (64<=a0)=J:=decide_eq_false c3
  clear c3
  obtain⟨ji4,hji4⟩:∃j_:Int,(IntKind.u64.wrap (a0))=j_:=⟨_,rfl⟩
  replace H:(if 0<=(ji4)then(af (decide (a1<(shl .u64 1 (ji4)))))else(ai))=af r:=by first | (rw[hji4]at H;exact H) | (simp only[hji4]at H ⊢;exact H)
  by_cases c5:0<=(ji4)
  ·rw[if_pos c5]at H
   have c5b0:=eq_true c5
   have c5b1:decide (0<=(ji4))=ac:=decide_eq_true c5
   clear c5
   obtain⟨ji6,hji6⟩:∃j_:Int,(shl .u64 1 (ji4))=j_:=⟨_,rfl⟩
   replace H:(af (decide (a1<(ji6))))=af r:=by first | (rw[hji6]at H;exact H) | (simp only[hji6]at H ⊢;exact H)
   have hji6_:(IntKind.u64.wrap (1*2 ^ min (ji4).toNat 64))=ji6:=hji6
   have hji6z:(ji4)<=64->(IntKind.u64.wrap (1*2 ^ (ji4).toNat))=ji6:=shl_small hji6
   have hji6u:(IntKind.u64.wrap (2 ^ min (ji4).toNat 64))=ji6:=by have h_:=hji6_;rw[Int.one_mul]at h_;exact h_
   have hji6v:(ji4)<=64->(IntKind.u64.wrap (2 ^ (ji4).toNat))=ji6:=fun hle_=>by have h_:=hji6z hle_;rw[Int.one_mul]at h_;exact h_
   obtain rfl:=ck H
   go_enter Tryz.func226,Tryz.ntmps226
   go_wp2
   go_ret
   exact⟨by first | rfl | (simp;done) | (simp only[←hji4,←hji6] <;> (first | rfl | simp)) | (simp[*];done),by repeat(first | exact dh _ | apply di)⟩
  ·rw[if_neg c5]at H
   exact absurd H (by simp)
def cadenceref16_in.l0:Nat->List ByteArray->ByteArray->Int->Option (Bool)
 |0,_,_,_=>ai
 |k+1,x0,x1,x5=>if x5<(x0.length:Int)then(if 0<=x5 then(if(rdOf fo x0 x5).toList=x1.toList then(af ac)else(cadenceref16_in.l0 k x0 x1 (wrap64 (x5+1))))else(ai))else(af J)
def cadenceref16_in.f (k:Nat)(l0:List ByteArray)(a1:ByteArray):Option (Bool):=cadenceref16_in.l0 k l0 a1 0
set_option maxRecDepth 100000 in
theorem cadenceref16_in.calls (k:Nat)(A0:Option Addr)(c0:Nat)(l0:List ByteArray)(a1:ByteArray)(r:Bool)(w:World)(hr0:Kd.C Kd.string w A0 l0.length l0)(hc0:l0.length<=c0)(h:cadenceref16_in.f k l0 a1=af r):
 Calls aq 131 #[.slice A0 l0.length c0,.string a1] w fun e w'=>e=.returned (.bool r)/\Drawn0 w w':=by
 have HR0:=I hr0
 have HC0:=I hc0
 clear hr0 hc0
 have H:(cadenceref16_in.l0 k l0 a1 0)=af r:=h
 clear h
 have H':=I H
 clear H
 go_enter Tryz.func131,Tryz.ntmps131
 go_wp2
 go_loopg [5] k (fun kq v5 w'=>∃(x5_1:Int),v5=.int .i64 x5_1/\Aside0 (cadenceref16_in.l0 kq l0 a1 x5_1=af r)/\Aside0 (kq<=k)/\Drawn0 w w')
 case atStart=>exact⟨(0),(by first | rfl | (simp;done) | (simp[*];done)),H',⟨ak _⟩,by repeat(first | exact dh _ | apply di)⟩
 case round=>
  clear H'
  try clear p2
  obtain⟨x5_1,rfl,HA,HK1,⟨m1,rfl⟩⟩:=hrel
  cases gk with
  |zero=>exact absurd HA.out (by simp[cadenceref16_in.l0])
  |succ k1=>
   have H:=HA.out
   clear HA
   simp only[cadenceref16_in.l0]at H
   by_cases c3:x5_1<(l0.length:Int)
   ·rw[if_pos c3]at H
    have c3b0:decide (x5_1<(l0.length:Int))=ac:=decide_eq_true c3
    clear c3
    by_cases c4:0<=x5_1
    ·rw[if_pos c4]at H
     have c4b0:decide (0<=x5_1)=ac:=decide_eq_true c4
     clear c4
     by_cases c5:(rdOf fo l0 x5_1).toList=a1.toList
     ·rw[if_pos c5]at H
      have c5b0:((rdOf fo l0 x5_1).toList==a1.toList)=ac:=beq_iff_eq.mpr c5
      have c5b1:((rdOf fo l0 x5_1).toList != a1.toList)=J:=bne_eq_false_iff_eq.mpr c5
      clear c5
      obtain rfl:=ck H
      have p193:0<=(x5_1:Int):=of_decide_eq_true (by first | (with_reducible assumption) | assumption)
      have q193:x5_1<(l0.length:Int):=of_decide_eq_true (by first | (with_reducible assumption) | assumption)
      obtain⟨ad193,e193,hx193_0⟩:=Kd.nT HR0.out x5_1 p193 q193
      cases e193
      replace p193:=eq_true p193
      replace q193:=eq_true q193
      go_wp2
      go_ret
      exact⟨by first | rfl | (simp;done) | (simp[*];done),by repeat(first | exact dh _ | apply di)⟩
     ·rw[if_neg c5]at H
      have c5b0:((rdOf fo l0 x5_1).toList==a1.toList)=J:=beq_eq_false_iff_ne.mpr c5
      have c5b1:((rdOf fo l0 x5_1).toList != a1.toList)=ac:=bne_iff_ne.mpr c5
      have H':=I H
      clear H
      have p193:0<=(x5_1:Int):=of_decide_eq_true (by first | (with_reducible assumption) | assumption)
      have q193:x5_1<(l0.length:Int):=of_decide_eq_true (by first | (with_reducible assumption) | assumption)
      obtain⟨ad193,e193,hx193_0⟩:=Kd.nT HR0.out x5_1 p193 q193
      cases e193
      replace p193:=eq_true p193
      replace q193:=eq_true q193
      go_wp2
      go_roundg k1
      case measure=>have:=HK1.out;omega
      case rel=>exact⟨(wrap64 (x5_1+1)),(by first | rfl | (simp;done) | (simp[*];done)),H',⟨by have:=HK1.out;omega⟩,by repeat(first | exact dh _ | apply di)⟩
    ·rw[if_neg c4]at H
     exact absurd H (by simp)
   ·rw[if_neg c3]at H
    have c3b0:decide (x5_1<(l0.length:Int))=J:=decide_eq_false c3
    clear c3
    obtain rfl:=ck H
    go_wp2
    go_ret
    exact⟨by first | rfl | (simp;done) | (simp[*];done),by repeat(first | exact dh _ | apply di)⟩
def cadenceref16_cut.f (a0:Int):Option (Int):=if a0 > 65536 then(af 65537)else(af a0)
set_option maxRecDepth 100000 in
theorem cadenceref16_cut.calls (a0:Int)(r:Int)(w:World)(h:cadenceref16_cut.f a0=af r):
 Calls aq 229 #[.int .i64 a0] w fun e w'=>e=.returned (.int .i64 r)/\Drawn0 w w':=by
 have H:(if a0 > 65536 then(af 65537)else(af a0))=af r:=h
 clear h
 by_cases c2:a0 > 65536
 ·rw[if_pos c2]at H
  have c2b0:decide (65536<a0)=ac:=decide_eq_true c2
  clear c2
  obtain rfl:=ck H
  go_enter Tryz.func229,Tryz.ntmps229
  go_wp2
  go_ret
  exact⟨by first | rfl | (simp;done) | (simp[*];done),by repeat(first | exact dh _ | apply di)⟩
 ·rw[if_neg c2]at H
  have c2b0:decide (65536<a0)=J:=decide_eq_false c2
  clear c2
  obtain rfl:=ck H
  go_enter Tryz.func229,Tryz.ntmps229
  go_wp2
  go_ret
  exact⟨by first | rfl | (simp;done) | (simp[*];done),by repeat(first | exact dh _ | apply di)⟩
def wf_plus.l0:Nat->Int->List Int->Int->Int->Option (Int)
 |0,_,_,_,_=>ai
 |k+1,x3,x6,x7,x8=>if x8<x7 then(if 0<=x8 then(if x8<(x6.length:Int)then(wf_plus.l0 k (mn (wrap64 (x3+(rd x6 x8))) 1099511627776) x6 x7 (wrap64 (x8+1)))else(ai))else(ai))else(af x3)
def wf_plus.f (k:Nat)(l0:List Int):Option (Int):=wf_plus.l0 k 0 l0 (l0.length:Int) 0
set_option maxRecDepth 100000 in
theorem wf_plus.calls (k:Nat)(A0:Option Addr)(c0:Nat)(l0:List Int)(r:Int)(w:World)(hr0:Kd.C (Kd.int .i64) w A0 l0.length l0)(hc0:l0.length<=c0)(h:wf_plus.f k l0=af r):
 Calls aq 155 #[.slice A0 l0.length c0] w fun e w'=>e=.returned (.int .i64 r)/\Below w.heap.size w w':=by
 have HR0:=I hr0
 have HC0:=I hc0
 clear hr0 hc0
 have HB:=I (aj w.heap.size w)
 have H:(wf_plus.l0 k 0 l0 (l0.length:Int) 0)=af r:=h
 clear h
 have H':=I H
 clear H
 go_enter Tryz.func155,Tryz.ntmps155
 go_wp2
 go_loopg [3,8] k (fun kq v3 v8 w'=>∃(x3_1:Int) (x8_1:Int),v3=.int .i64 x3_1/\v8=.int .i64 x8_1/\Aside0 (wf_plus.l0 kq x3_1 l0 (l0.length:Int) x8_1=af r)/\Aside0 (kq<=k)/\Aside0 (Below w.heap.size w w'))
 case atStart=>exact⟨(0),(0),(by first | rfl | (simp;done) | (simp[*];done)),(by first | rfl | (simp;done) | (simp[*];done)),H',⟨ak _⟩,⟨by repeat(first | (with_reducible first | exact HB.out | apply aT | apply aO | apply aU) | exact HB.out)⟩⟩
 case round=>
  clear H'
  obtain⟨x3_1,x8_1,rfl,rfl,HA,HK1,HB⟩:=hrel
  cases gk with
  |zero=>exact absurd HA.out (by simp[wf_plus.l0])
  |succ k1=>
   have H:=HA.out
   clear HA
   simp only[wf_plus.l0]at H
   by_cases c2:x8_1<(l0.length:Int)
   ·rw[if_pos c2]at H
    have c2b0:decide (x8_1<(l0.length:Int))=ac:=decide_eq_true c2
    clear c2
    by_cases c3:0<=x8_1
    ·rw[if_pos c3]at H
     have c3b0:decide (0<=x8_1)=ac:=decide_eq_true c3
     clear c3
     by_cases c4:x8_1<(l0.length:Int)
     ·rw[if_pos c4]at H
      have c4b0:decide (x8_1<(l0.length:Int))=ac:=decide_eq_true c4
      clear c4
      obtain⟨ji5,hji5⟩:∃j_:Int,(mn (wrap64 (x3_1+(rd l0 x8_1))) 1099511627776)=j_:=⟨_,rfl⟩
      replace H:(wf_plus.l0 k1 ji5 l0 (l0.length:Int) (wrap64 (x8_1+1)))=af r:=by first | (rw[hji5]at H;exact H) | (simp only[hji5]at H ⊢;exact H)
      have hji5_:(if 1099511627776<(wrap64 (x3_1+(rd l0 x8_1)))then 1099511627776 else(wrap64 (x3_1+(rd l0 x8_1))))=ji5:=hji5
      have H':=I H
      clear H
      have p237:0<=(x8_1:Int):=of_decide_eq_true (by first | (with_reducible assumption) | assumption)
      have q237:x8_1<(l0.length:Int):=of_decide_eq_true (by first | (with_reducible assumption) | assumption)
      obtain⟨ad237,e237,hx237_0⟩:=Kd.at_int HR0.out x8_1 p237 q237
      cases e237
      replace hx237_0:=(HB.out.cell (ar w _ hx237_0)).trans hx237_0
      replace p237:=eq_true p237
      replace q237:=eq_true q237
      go_wp2
      go_roundg k1
      case measure=>have:=HK1.out;omega
      case rel=>exact⟨(ji5),(wrap64 (x8_1+1)),(by first | rfl | (simp;done) | (simp only[←hji5] <;> (first | rfl | simp)) | (simp[*];done)),(by first | rfl | (simp;done) | (simp[*];done)),H',⟨by have:=HK1.out;omega⟩,⟨by repeat(first | (with_reducible first | exact HB.out | apply aT | apply aO | apply aU) | exact HB.out)⟩⟩
     ·rw[if_neg c4]at H
      exact absurd H (by simp)
    ·rw[if_neg c3]at H
     exact absurd H (by simp)
   ·rw[if_neg c2]at H
    have c2b0:decide (x8_1<(l0.length:Int))=J:=decide_eq_false c2
    clear c2
    obtain rfl:=ck H
    go_wp2
    go_ret
    exact⟨by first | rfl | (simp[bX,bW] <;> rfl) | (simp[*,bX,bW] <;> rfl),by repeat(first | (with_reducible first | exact HB.out | apply aT | apply aO | apply aU) | exact HB.out)⟩
end
end Go.Proofs.YtfigjpehecibeaaGreat.L
namespace Go.Proofs.YtfigjpehecibeaaGreat.L
open Go.RowKit Go.Proofs.YtfigjpehecibeaaGreatW.PrintWords Go.Proofs.YtfigjpehecibeaaGreatW.PrintLast Go.Proofs.YtfigjpehecibeaaGreatW.PrintMore Go.Proofs.YtfigjpehecibeaaGreat.Gr
section
attribute [local go_sem] G.cell
attribute [local go_sem] jT iA lW j7 iI iG jM jU
theorem max_val (a b:Nat):(if a<b then(b:Int)else(a:Int))=((max a b:Nat):Int):=by split <;> omega
set_option maxRecDepth 100000 in
theorem depth_walk (x:S116)(hb:gP x<=1099511627776)(ih:∀y∈x.f3,pQ 192 y (gP y)):pQ 192 x (gP x):=by
 intro A c w hc hl
 have gout:∀{o:Obj} (g:G (w.alloc o)),Below w.heap.size w g.W:=fun g=>((aj _ _).alloc (ak _) _).trans (g.below.mono (by simp))
 rw[qG]at hb ⊢
 obtain⟨x0,x1,x2,l⟩:=x
 simp only at*
 have IH:=I ih
 have HC:=I hc
 have HB:=I hb
 have hlm:=hc.2.1
 clear ih hc hb
 go_enter Tryz.func192,Tryz.ntmps192
 go_upto_region 1 with (fail)
 refine aG ?_
 intro gg
 go_wp2
 go_loopw [9,3] (fun i n W=>∃(k:Nat) (g:G (gw0 gg)),i=.int .i64 k/\n=.int .i64 (jJ (l.take k))/\W=g.W/\k<=l.length) (fun i n _=>l.length - (intOf i).toNat)
 case atStart=>exact⟨0,gg,rfl,rfl,rfl,bh _⟩
 case round=>
  obtain⟨k,g,rfl,rfl,rfl,hk⟩:=hrel
  by_cases hlt:k<l.length
  ·obtain⟨ad,A3,c3,e1,q0,q1,q2,q3,l3,g3⟩:=iL HC.out (k:Int) (bg _) (by omega)
   cases e1
   rw[aw]at q0 q1 q2 q3
   replace q0:=((gout g).cell (ar w _ q0)).trans q0
   replace q1:=((gout g).cell (ar w _ q1)).trans q1
   replace q2:=((gout g).cell (ar w _ q2)).trans q2
   replace q3:=((gout g).cell (ar w _ q3)).trans q3
   have hi1:(k:Int)<(l.length:Int):=by omega
   have G3:=I g3
   have L3:=I l3
   clear g3 l3
   have MEM:=I (hO hlt)
   have T:=I (congrArg jJ (dS hlt))
   go_wp2_with fail
   refine(cS (g:=g) (IH.out _ MEM.out A3 c3 _ (Kd.aF G3.out ((gout g).alloc (gout g).size _)) L3.out)).mono ?_
   rintro _ _ ⟨rfl,gg2,rfl⟩
   go_wp2_with fail
   have T2:=T.out
   rw[rL]at T2
   exact⟨⟨k+1,gg2,by go_num,by rw[T2,←max_val],rfl,by omega⟩,by simp[intOf];omega⟩
  ·have W:=I (lS (n:=jJ l) (by have:=HB.out;omega))
   go_wp2_with fail
   go_ret
   refine⟨?_,gout g⟩
   rw[show k=l.length by omega,du,W.out]
   rfl
theorem depth_calls:∀(n:Nat) (x:S116),cq x<=n->gP x<=1099511627776->pQ 192 x (gP x):=by
 intro n
 induction n with
 |zero=>intro x h;obtain⟨a,b,c,l⟩:=x;simp at h
 |succ n ih=>
  intro x h hb
  exact depth_walk x hb fun y hy=>ih y (fF rfl hy h) (by have:=deepL_mem hy;rw[qG]at hb;omega)
mutual
def aM:S116->Nat
 | ⟨_,_,_,l⟩=>1+bN l
def bN:List S116->Nat
 | []=>0
 |x::r=>aM x+bN r
end
theorem eF (x:S116):aM x=1+bN x.f3:=by
 obtain⟨a,b,s,l⟩:=x
 rw[aM]
theorem eK (l:List S116)(x:S116):bN (l++[x])=bN l+aM x:=by
 induction l with
 |nil=>simp[bN]
 |cons y r ih=>rw[gu,bN,ih,bN];omega
theorem rT {l:List S116}{x:S116}(h:x∈l):aM x<=bN l:=by
 induction l with
 |nil=>cases h
 |cons y r ih=>
  rw[bN]
  rcases ig.1 h with rfl | h
  ·omega
  ·have:=ih h;omega
theorem fX (l:List S116)(k:Nat):bN (l.take k)<=bN l:=by
 induction l generalizing k with
 |nil=>simp[bN]
 |cons y r ih=>
  cases k with
  |zero=>simp[bN]
  |succ k=>rw[List.take_succ_cons,bN,bN];have:=ih k;omega
theorem iP {a b:Nat}(h:a+b<9223372036854775807):wrap64 ((a:Int)+(b:Int))=((a+b:Nat):Int):=by unfold wrap64;omega
set_option maxRecDepth 100000 in
theorem weight_walk (x:S116)(hb:aM x<=1099511627776)(ih:∀y∈x.f3,pQ 230 y (aM y)):pQ 230 x (aM x):=by
 intro A c w hc hl
 have gout:∀{o:Obj} (g:G (w.alloc o)),Below w.heap.size w g.W:=fun g=>((aj _ _).alloc (ak _) _).trans (g.below.mono (by simp))
 rw[eF]at hb ⊢
 obtain⟨x0,x1,x2,l⟩:=x
 simp only at*
 have IH:=I ih
 have HC:=I hc
 have HB:=I hb
 have hlm:=hc.2.1
 clear ih hc hb
 go_enter Tryz.func230,Tryz.ntmps230
 go_upto_region 1 with (fail)
 refine aG ?_
 intro gg
 go_wp2
 go_loopw [4,3] (fun i n W=>∃(k:Nat) (g:G (gw0 gg)),i=.int .i64 k/\(∃m:Nat,n=.int .i64 m/\m=1+bN (l.take k))/\W=g.W/\k<=l.length) (fun i n _=>l.length - (intOf i).toNat)
 case atStart=>exact⟨0,gg,rfl,⟨1,rfl,rfl⟩,rfl,bh _⟩
 case round=>
  obtain⟨k,g,rfl,⟨m,rfl,hm⟩,rfl,hk⟩:=hrel
  have M:=I hm
  clear hm
  by_cases hlt:k<l.length
  ·obtain⟨ad,A3,c3,e1,q0,q1,q2,q3,l3,g3⟩:=iL HC.out (k:Int) (bg _) (by omega)
   cases e1
   rw[aw]at q0 q1 q2 q3
   replace q0:=((gout g).cell (ar w _ q0)).trans q0
   replace q1:=((gout g).cell (ar w _ q1)).trans q1
   replace q2:=((gout g).cell (ar w _ q2)).trans q2
   replace q3:=((gout g).cell (ar w _ q3)).trans q3
   have hi1:(k:Int)<(l.length:Int):=by omega
   have G3:=I g3
   have L3:=I l3
   clear g3 l3
   have MEM:=I (hO hlt)
   have T:=I (congrArg bN (dS hlt))
   have T1:=I (iP (a:=m) (b:=aM (bU l (k:Int))) (by have t:=T.out;rw[eK]at t;have:=fX l (k+1);have:=HB.out;have:=M.out;omega))
   go_wp2_with fail
   refine(aD (g:=g) (IH.out _ MEM.out A3 c3 g.W (Kd.aF G3.out (gout g)) L3.out)).mono ?_
   rintro _ _ ⟨rfl,gg2,rfl⟩
   go_wp2_with fail
   exact⟨⟨k+1,gg2,by go_num,⟨m+aM (bU l (k:Int)),by rw[T1.out],by have t:=T.out;rw[eK]at t;rw[t,M.out];omega⟩,rfl,by omega⟩,by simp[intOf];omega⟩
  ·go_wp2_with fail
   go_ret
   refine⟨?_,gout g⟩
   rw[M.out,show k=l.length by omega,du]
   rfl
theorem jV:∀(n:Nat) (x:S116),cq x<=n->aM x<=1099511627776->pQ 230 x (aM x):=by
 intro n
 induction n with
 |zero=>intro x h;obtain⟨a,b,c,l⟩:=x;simp at h
 |succ n ih=>
  intro x h hb
  exact weight_walk x hb fun y hy=>ih y (fF rfl hy h) (by have:=rT hy;rw[eF]at hb;omega)
theorem plus_sum:∀(d:Nat) (l:List Int) (i k:Nat) (s:Nat),(∀x∈l,0<=x)->i+d=l.length->d<k->(s:Int)+(l.drop i).sum<=1099511627776->l.length<100->
 wf_plus.l0 k (s:Int) l (l.length:Int) (i:Int)=af ((s:Int)+(l.drop i).sum):=by
 intro d
 induction d with
 |zero=>
  intro l i k s hp h hk hs _
  obtain⟨k,rfl⟩:∃a,k=a+1:=⟨k - 1,by omega⟩
  rw[wf_plus.l0,if_neg (by omega),jt (by omega)];simp
 |succ d ih=>
  intro l i k s hp h hk hs hl
  obtain⟨k,rfl⟩:∃a,k=a+1:=⟨k - 1,by omega⟩
  have hi:i<l.length:=by omega
  have e:wrap64 ((i:Int)+1)=((i+1:Nat):Int):=by unfold wrap64;omega
  have er:rd l (i:Int)=l[i]:=by simp[rd,av,hi]
  have hd:l.drop i=l[i]::l.drop (i+1):=iy hi
  have hx:=hp _ (fg hi)
  have hr:0<=(l.drop (i+1)).sum:=by
   have:∀q:List Int,(∀x∈q,0<=x)->0<=q.sum:=by
    intro q
    induction q with
    |nil=>simp
    |cons a r ih=>intro h;rw[List.sum_cons];have:=h a (by simp);have:=ih fun x hx=>h x (by simp[hx]);omega
   exact this _ fun x hx=>hp x (List.mem_of_mem_drop hx)
  rw[hd,List.sum_cons]at hs ⊢
  obtain⟨x,hxn⟩:∃x:Nat,l[i]=(x:Int):=⟨l[i].toNat,by omega⟩
  rw[wf_plus.l0,if_pos (by omega),if_pos (by omega),if_pos (by omega),e,er,hxn,iP (by omega)]
  rw[hxn]at hs
  have hm:mn ((s+x:Nat):Int) 1099511627776=((s+x:Nat):Int):=by unfold mn;split <;> omega
  rw[hm,ih l (i+1) k (s+x) hp (by omega) (by omega) (by push_cast;omega) hl]
  congr 1
  push_cast
  omega
theorem plus_calls (l:List Int)(A:Option Addr)(c:Nat)(w:World)(hp:∀x∈l,0<=x)(hs:l.sum<=1099511627776)(hl:l.length<100)(hr:Kd.C (Kd.int .i64) w A l.length l)(hc:l.length<=c):
 Calls aq 155 #[.slice A l.length c] w fun e w'=>e=.returned (.int .i64 l.sum)/\Below w.heap.size w w':=
 wf_plus.calls 101 A c l l.sum w hr hc (by
  have:=plus_sum l.length l 0 101 0 hp (by omega) (by omega) (by simpa using hs) hl
  unfold wf_plus.f
  simpa using this)
end
section
attribute [local go_sem] G.cell
theorem lit_ints (w:World)(xs:List Int)(e:TypeId)(hm:xs.length<=100):Kd.C (Kd.int .i64) (w.alloc (.cells (xs.map (bc .i64)).toArray e)) (af ⟨w.heap.size,0,ai⟩) xs.length xs:=by
 refine⟨rfl,by omega,fun _=>⟨_,rfl,fun i v hv=>⟨[.int .i64 v],rfl,rfl,fun j u hu=> ?_⟩⟩⟩
 have hj:j=0:=by
  have:=(dz.1 hu).1
  simp at this;omega
 subst hj
 simp at hu
 subst hu
 have hi:=(dz.1 hv).1
 have hv2:=(dz.1 hv).2
 simp only[go_sem,Addr.add,hv]
 rw[show(Kd.int IntKind.i64).sz=1 from rfl,gm,fp]
 split
 ·next h=>subst h;rw[World.cell?_alloc_new];simp[hv]
 ·rw[Nat.zero_add,World.cell?_alloc_new];simp[hv]
set_option maxRecDepth 100000 in
theorem weigh_walk (x:S116)(hb:aM x<=1099511627776)(ih:∀y∈x.f3,pQ 156 y (aM y)):pQ 156 x (aM x):=by
 intro A c w hc hl
 have gout:∀{o:Obj} (g:G (w.alloc o)),Below w.heap.size w g.W:=fun g=>((aj _ _).alloc (ak _) _).trans (g.below.mono (by simp))
 rw[eF]at hb ⊢
 obtain⟨x0,x1,x2,l⟩:=x
 simp only at*
 have IH:=I ih
 have HC:=I hc
 have HB:=I hb
 have hlm:=hc.2.1
 clear ih hc hb
 go_enter Tryz.func156,Tryz.ntmps156
 go_upto_region 1 with (fail)
 refine aG ?_
 intro gg
 go_wp2
 go_loopw [9,3] (fun i n W=>∃(k:Nat) (g:G (gw0 gg)),i=.int .i64 k/\(∃m:Nat,n=.int .i64 m/\m=1+bN (l.take k))/\W=g.W/\k<=l.length) (fun i n _=>l.length - (intOf i).toNat)
 case atStart=>exact⟨0,gg,rfl,⟨1,rfl,rfl⟩,rfl,bh _⟩
 case round=>
  obtain⟨k,g,rfl,⟨m,rfl,hm⟩,rfl,hk⟩:=hrel
  have M:=I hm
  clear hm
  by_cases hlt:k<l.length
  ·obtain⟨ad,A3,c3,e1,q0,q1,q2,q3,l3,g3⟩:=iL HC.out (k:Int) (bg _) (by omega)
   cases e1
   rw[aw]at q0 q1 q2 q3
   replace q0:=((gout g).cell (ar w _ q0)).trans q0
   replace q1:=((gout g).cell (ar w _ q1)).trans q1
   replace q2:=((gout g).cell (ar w _ q2)).trans q2
   replace q3:=((gout g).cell (ar w _ q3)).trans q3
   have hi1:(k:Int)<(l.length:Int):=by omega
   have G3:=I g3
   have L3:=I l3
   clear g3 l3
   have MEM:=I (hO hlt)
   have T:=I (congrArg bN (dS hlt))
   go_wp2_with fail
   refine(cS (g:=g) (IH.out _ MEM.out A3 c3 _ (Kd.aF G3.out ((gout g).alloc (gout g).size _)) L3.out)).mono ?_
   rintro _ _ ⟨rfl,gg2,rfl⟩
   go_wp2_with fail
   refine(cS (g:=gg2) (plus_calls [(m:Int),(aM (bU l (k:Int)):Int)] (af ⟨gg2.W.heap.size,0,ai⟩) 2 _ (by simp) (by have t:=T.out;rw[eK]at t;have:=fX l (k+1);have:=HB.out;have:=M.out;simp;omega) (by simp) (lit_ints _ _ _ (by simp)) (by simp))).mono ?_
   rintro _ _ ⟨rfl,gg3,rfl⟩
   go_wp2_with fail
   exact⟨⟨k+1,gg3,by go_num,⟨m+aM (bU l (k:Int)),by simp,by have t:=T.out;rw[eK]at t;rw[t,M.out];omega⟩,rfl,by omega⟩,by simp[intOf];omega⟩
  ·go_wp2_with fail
   go_ret
   refine⟨?_,gout g⟩
   rw[M.out,show k=l.length by omega,du]
   rfl
theorem weigh_calls:∀(n:Nat) (x:S116),cq x<=n->aM x<=1099511627776->pQ 156 x (aM x):=by
 intro n
 induction n with
 |zero=>intro x h;obtain⟨a,b,c,l⟩:=x;simp at h
 |succ n ih=>
  intro x h hb
  exact weigh_walk x hb fun y hy=>ih y (fF rfl hy h) (by have:=rT hy;rw[eF]at hb;omega)
end
end Go.Proofs.YtfigjpehecibeaaGreat.L
namespace Go.Proofs.YtfigjpehecibeaaGreat.Ot
open Go.RowKit Go.Proofs.YtfigjpehecibeaaGreat.L Go.Proofs.YtfigjpehecibeaaGreatW.PrintWords Go.Proofs.YtfigjpehecibeaaGreatW.PrintLast Go.Proofs.YtfigjpehecibeaaGreatW.PrintMore Go.Proofs.YtfigjpehecibeaaGreat.Op
theorem all_sum {H:Type}(l:List (DataW H)):Rows.uptoBulkAll l=(l.map Rows.uptoBulk).sum:=by
 induction l with
 |nil=>rfl
 |cons d r ih=>simp[Rows.uptoBulkAll,ih]
theorem bulk {H:Type}:Bulk (Rows.uptoBulk (H:=H)) where
 str:=fun l=>by simp[Rows.uptoBulk]
 one:=fun d=>by
  cases d with
  |lit l=>cases l <;> simp[Rows.uptoBulk]
  |nil=>simp[Rows.uptoBulk]
  |ptr d=>simp[Rows.uptoBulk]
  |slice elems spare=>simp[Rows.uptoBulk]
  |agg parts=>simp[Rows.uptoBulk]
  |iface t d=>simp[Rows.uptoBulk]
  |map entries=>simp[Rows.uptoBulk]
  |held h=>simp[Rows.uptoBulk]
 slice:=fun es ss=>by simp only[Rows.uptoBulk,all_sum];omega
 agg:=fun ps=>by simp only[Rows.uptoBulk,all_sum];omega
abbrev okI (n:Int):Prop:=(Lit.int .i64 n).wf=ac
abbrev okU (n:Int):Prop:=(Lit.int .u64 n).wf=ac
abbrev okS (s:ByteArray):Prop:=s.size<=140737488351232
mutual
def l8:S116->Prop
 | ⟨a,b,s,l⟩=>okI a/\okU b/\okS s/\l.length*56<=140737488351232/\rG l
def rG:List S116->Prop
 | []=>True
 |x::r=>l8 x/\rG r
end
theorem oL (l:List S116):rG l ↔ ∀x∈l,l8 x:=by
 induction l with
 |nil=>simp[rG]
 |cons x r ih=>simp[rG,ih]
mutual
def pR:S116->Nat
 | ⟨a,b,s,l⟩=>1+rC l
def rC:List S116->Nat
 | []=>0
 |x::r=>pR x+rC r
end
theorem bulkEs_sum (l:List S116):rC l=(l.map pR).sum:=by
 induction l with
 |nil=>simp[rC]
 |cons x r ih=>simp[rC,ih]
mutual
def jW:S119->Prop
 | ⟨a,s,e,f,lo,hi,th,el⟩=>okI a/\okS s/\l8 e/\l8 f/\okU lo/\okU hi/\th.length*200<=140737488351232/\el.length*200<=140737488351232/\lE th/\lE el
def lE:List S119->Prop
 | []=>True
 |x::r=>jW x/\lE r
end
theorem cW (l:List S119):lE l ↔ ∀x∈l,jW x:=by
 induction l with
 |nil=>simp[lE]
 |cons x r ih=>simp[lE,ih]
mutual
def oQ:S119->Nat
 | ⟨a,s,e,f,lo,hi,th,el⟩=>1+pR e+pR f+cO th+cO el
def cO:List S119->Nat
 | []=>0
 |x::r=>oQ x+cO r
end
theorem bulkTs_sum (l:List S119):cO l=(l.map oQ).sum:=by
 induction l with
 |nil=>simp[cO]
 |cons x r ih=>simp[cO,ih]
def goodD (x:S70):Prop:=okI x.f0/\okS x.f1/\okI x.f2/\x.f3.length*8<=140737488351232/\∀v∈x.f3,okU v
def bulkD (x:S70):Nat:=1+x.f3.length
theorem sum_ones {α:Type}(l:List α):(l.map fun _=>1).sum=l.length:=by induction l <;> simp_all[Nat.add_comm]
section
variable {H:Type}{enc:TypeId × Value->H}{w:World}
theorem opensE:∀n,jI enc aq w Rows.uptoBulk n 116 dA l8 pR:=by
 intro n
 induction n using Nat.strongRecOn with
 |_ n ih=>
  have h:jI enc aq w Rows.uptoBulk n 116 (Kd.pair (Kd.int .i64) (Kd.pair (Kd.int .u64) (Kd.pair Kd.string (Kd.slice 116 dA)))) _ _:=jR bulk (fs:=[(3,0),(74,1),(9,2),(114,3)]) Tryz.underlying116 rfl fun m hm=>
   bZ (e9 bulk ke) (by kernel_rfl) (bZ (e9 bulk jv) (by kernel_rfl) (bZ (jQ bulk jj) (by kernel_rfl)
    (lA (fS bulk (bytes:=56) Tryz.underlying114 (by kernel_rfl) (by kernel_rfl) (by decide) fun m' hm'=>ih m' (by omega)) (Nat.le_of_eq (by kernel_rfl)))))
  refine opens_kd (iF (nN (f:=fun x:S116=>(x.f0,x.f1,x.f2,x.f3)) (fun p=>⟨p.1,p.2.1,p.2.2.1,p.2.2.2⟩) (fun _=>rfl) h) ?_ ?_) ?_
  ·rintro⟨a,b,s,l⟩ ⟨h1,h2,h3,h4,h5⟩
   exact⟨h1,h2,h3,h4,(oL l).2 h5⟩
  ·rintro⟨a,b,s,l⟩
   simp only[pR,bulkEs_sum]
   omega
  ·rintro x cs ⟨_,_,rfl,rfl,⟨_,_,rfl,rfl,⟨_,_,rfl,rfl,⟨A3,c3,rfl,l3,g3⟩⟩⟩⟩
   exact rN w x l3 g3
theorem opensT:∀n,jI enc aq w Rows.uptoBulk n 119 dN jW oQ:=by
 intro n
 induction n using Nat.strongRecOn with
 |_ n ih=>
  have h:jI enc aq w Rows.uptoBulk n 119 (Kd.pair (Kd.int .i64) (Kd.pair Kd.string (Kd.pair dA (Kd.pair dA (Kd.pair (Kd.int .u64) (Kd.pair (Kd.int .u64) (Kd.pair (Kd.slice 119 dN) (Kd.slice 119 dN)))))))) _ _:=jR bulk (fs:=[(3,0),(9,1),(116,2),(116,6),(74,10),(74,11),(23,12),(23,13)]) Tryz.underlying119 rfl fun m hm=>
   bZ (e9 bulk ke) (by kernel_rfl) (bZ (jQ bulk jj) (by kernel_rfl) (bZ (opensE m) (by kernel_rfl) (bZ (opensE m) (by kernel_rfl)
    (bZ (e9 bulk jv) (by kernel_rfl) (bZ (e9 bulk jv) (by kernel_rfl)
    (bZ (fS bulk (bytes:=200) Tryz.underlying23 (by kernel_rfl) (by kernel_rfl) (by decide) fun m' hm'=>ih m' (by omega)) (by kernel_rfl)
    (lA (fS bulk (bytes:=200) Tryz.underlying23 (by kernel_rfl) (by kernel_rfl) (by decide) fun m' hm'=>ih m' (by omega)) (Nat.le_of_eq (by kernel_rfl)))))))))
  refine opens_kd (iF (nN (f:=fun x:S119=>(x.f0,x.f1,x.f2,x.f3,x.f4,x.f5,x.f6,x.f7)) (fun p=>⟨p.1,p.2.1,p.2.2.1,p.2.2.2.1,p.2.2.2.2.1,p.2.2.2.2.2.1,p.2.2.2.2.2.2.1,p.2.2.2.2.2.2.2⟩) (fun _=>rfl) h) ?_ ?_) ?_
  ·rintro⟨a,s,e,f,lo,hi,th,el⟩ ⟨h1,h2,h3,h4,h5,h6,h7,h8⟩
   exact⟨h1,h2,h3,h4,h5,h6,h7.1,h8.1,(cW th).2 h7.2,(cW el).2 h8.2⟩
  ·rintro⟨a,s,e,f,lo,hi,th,el⟩
   simp only[oQ,bulkTs_sum]
   omega
  ·rintro x cs ⟨_,_,rfl,rfl,⟨_,_,rfl,rfl,⟨_,_,rfl,s2,⟨_,_,rfl,s6,⟨_,_,rfl,rfl,⟨_,_,rfl,rfl,⟨_,_,rfl,⟨A12,c12,rfl,l12,g12⟩,⟨A13,c13,rfl,l13,g13⟩⟩⟩⟩⟩⟩⟩⟩
   obtain⟨A5,c5,rfl,l5,g5⟩:=kB s2
   obtain⟨A9,c9,rfl,l9,g9⟩:=kB s6
   exact mU w x l5 g5 l9 g9 l12 g12 l13 g13
theorem opensD (n:Nat):jI enc aq w Rows.uptoBulk n 70 k70 goodD bulkD:=by
 have h:jI enc aq w Rows.uptoBulk n 70 (Kd.pair (Kd.int .i64) (Kd.pair Kd.string (Kd.pair (Kd.int .i64) (Kd.slice 74 (Kd.int .u64))))) _ _:=jR bulk (fs:=[(3,0),(9,1),(3,2),(36,3)]) Tryz.underlying70 rfl fun m hm=>
  bZ (e9 bulk ke) (by kernel_rfl) (bZ (jQ bulk jj) (by kernel_rfl) (bZ (e9 bulk ke) (by kernel_rfl)
   (lA (fS bulk (bytes:=8) Tryz.underlying36 (by kernel_rfl) (by kernel_rfl) (by decide) fun m' hm'=>e9 bulk jv) (Nat.le_of_eq (by kernel_rfl)))))
 refine iF (nN (f:=fun x:S70=>(x.f0,x.f1,x.f2,x.f3)) (fun p=>⟨p.1,p.2.1,p.2.2.1,p.2.2.2⟩) (fun _=>rfl) h) ?_ ?_
 ·rintro⟨a,s,z,l⟩ ⟨h1,h2,h3,h4,h5⟩
  exact⟨h1,h2,h3,h4,h5⟩
 ·rintro⟨a,s,z,l⟩
  simp only[bulkD,sum_ones]
  omega
structure Prog where
 nm:ByteArray
 wd:Int
 ln:Int
 ds:List S70
 bd:List S119
def kP:Kd Prog:=Kd.iso (Kd.pair Kd.string (Kd.pair (Kd.int .i64) (Kd.pair (Kd.int .i64) (Kd.pair (Kd.slice 70 k70) (Kd.slice 119 dN))))) (fun x:Prog=>(x.nm,x.wd,x.ln,x.ds,x.bd))
structure GoodP (x:Prog):Prop where
 nm:okS x.nm
 wd:okI x.wd
 ln:okI x.ln
 dl:x.ds.length*56<=140737488351232
 ds:∀d∈x.ds,goodD d
 bl:x.bd.length*200<=140737488351232
 bd:∀t∈x.bd,jW t
def bulkP (x:Prog):Nat:=1+(x.ds.map bulkD).sum+cO x.bd
theorem opensP (n:Nat):jI enc aq w Rows.uptoBulk n 25 kP GoodP bulkP:=by
 have h:jI enc aq w Rows.uptoBulk n 25 (Kd.pair Kd.string (Kd.pair (Kd.int .i64) (Kd.pair (Kd.int .i64) (Kd.pair (Kd.slice 70 k70) (Kd.slice 119 dN))))) _ _:=jR bulk (fs:=[(9,0),(3,1),(3,2),(22,3),(23,4)]) Tryz.underlying25 rfl fun m hm=>
  bZ (jQ bulk jj) (by kernel_rfl) (bZ (e9 bulk ke) (by kernel_rfl) (bZ (e9 bulk ke) (by kernel_rfl)
   (bZ (fS bulk (bytes:=56) Tryz.underlying22 (by kernel_rfl) (by kernel_rfl) (by decide) fun m' hm'=>opensD m') (by kernel_rfl)
   (lA (fS bulk (bytes:=200) Tryz.underlying23 (by kernel_rfl) (by kernel_rfl) (by decide) fun m' hm'=>opensT m') (Nat.le_of_eq (by kernel_rfl))))))
 refine iF (nN (f:=fun x:Prog=>(x.nm,x.wd,x.ln,x.ds,x.bd)) (fun p=>⟨p.1,p.2.1,p.2.2.1,p.2.2.2.1,p.2.2.2.2⟩) (fun _=>rfl) h) ?_ ?_
 ·rintro⟨a,s,z,l,b⟩ ⟨h1,h2,h3,h4,h5⟩
  exact⟨h1,h2,h3,h4.1,h4.2,h5.1,h5.2⟩
 ·rintro⟨a,s,z,l,b⟩
  simp only[bulkP,bulkTs_sum]
  omega
abbrev opensP_K (w:World):Prog->List Value->Prop:=kP.K w
abbrev rJ (x:Prog):Prop:=GoodP x
abbrev rK (x:Prog):Nat:=bulkP x
end
theorem prog_of_K {w:World}{x:Prog}{v:Value}(hs:∃vs,v=.agg vs)(h:kP.K w x v.cells.toList):∃A3 c3 A4 c4,v=.agg #[.string x.nm,.int .i64 x.wd,.int .i64 x.ln,.slice A3 x.ds.length c3,.slice A4 x.bd.length c4]/\x.ds.length<=c3/\k70.C w A3 x.ds.length x.ds/\x.bd.length<=c4/\dN.C w A4 x.bd.length x.bd:=by
 obtain⟨vs,rfl⟩:=hs
 obtain⟨_,_,e,rfl,⟨_,_,rfl,rfl,⟨_,_,rfl,rfl,⟨_,_,rfl,⟨A3,c3,rfl,l3,g3⟩,⟨A4,c4,rfl,l4,g4⟩⟩⟩⟩⟩:=h
 obtain⟨vs⟩:=vs
 simp[Value.cells]at e
 subst e
 exact⟨A3,c3,A4,c4,rfl,l3,g3,l4,g4⟩
end Go.Proofs.YtfigjpehecibeaaGreat.Ot
namespace Go.Proofs.YtfigjpehecibeaaGreat.L
open Go.RowKit Go.Proofs.YtfigjpehecibeaaGreatW.PrintWords Go.Proofs.YtfigjpehecibeaaGreatW.PrintLast Go.Proofs.YtfigjpehecibeaaGreatW.PrintMore Go.Proofs.YtfigjpehecibeaaGreat.Gr
section
attribute [local go_sem] G.cell
mutual
def sizeT:S119->Nat
 | ⟨k,_,at',e,lo,hi,th,el⟩=>1+(if k=1 then aM e else if k=2 then aM at'+aM e else if k=3 then aM e+bV th+bV el else if k=4 then(hi - lo).toNat*(1+bV th)else 0)
def bV:List S119->Nat
 | []=>0
 |x::r=>sizeT x+bV r
end
theorem nS (l:List S119)(x:S119):bV (l++[x])=bV l+sizeT x:=by
 induction l with
 |nil=>simp[bV]
 |cons y r ih=>rw[gu,bV,ih,bV];omega
theorem gF (x:S119):sizeT x=1+(if x.f0=1 then aM x.f3 else if x.f0=2 then aM x.f2+aM x.f3 else if x.f0=3 then aM x.f3+bV x.f6+bV x.f7 else if x.f0=4 then(x.f5 - x.f4).toNat*(1+bV x.f6)else 0):=by
 obtain⟨a,b,c,d,e,f,g,h⟩:=x
 rw[sizeT]
theorem fH {l:List S119}{k:Nat}(hlt:k<l.length):l.take (k+1)=l.take k++[aR l (k:Int)]:=by
 unfold aR
 rw[aw,av,ax hlt,List.take_add_one,ax hlt]
 rfl
theorem kG {l:List S119}{k:Nat}(hlt:k<l.length):aR l (k:Int)∈l:=by
 unfold aR;rw[aw,av,ax hlt];exact fg _
mutual
theorem aS:∀x:S116,aM x<=Ot.pR x
 | ⟨a,b,s,l⟩=>by rw[aM,Ot.pR];have:=o8 l;omega
theorem o8:∀l:List S116,bN l<=Ot.rC l
 | []=>by rw[bN];omega
 |x::r=>by rw[bN,Ot.rC];have:=aS x;have:=o8 r;omega
end
mutual
theorem nA:∀x:S116,gP x<=aM x
 | ⟨a,b,s,l⟩=>by rw[aM,gP];have:=o9 l;omega
theorem o9:∀l:List S116,jJ l<=bN l
 | []=>by rw[bN,jJ];omega
 |x::r=>by rw[bN,jJ];have:=nA x;have:=o9 r;omega
end
theorem cut_calls (n:Nat)(w:World):Calls aq 229 #[.int .i64 n] w fun e w'=>e=.returned (.int .i64 ((min n 65537:Nat):Int))/\Below w.heap.size w w':=
 (cadenceref16_cut.calls (n:Int) ((min n 65537:Nat):Int) w (by
   unfold cadenceref16_cut.f
   split
   ·rw[il (by omega)];rfl
   ·rw[db (by omega)])).mono fun _ _ ⟨he,hd⟩=>⟨he,hd.below⟩
theorem sH {P:Program}{f:FuncId}{args:Array Value}{w:World}{v:Value}(h:Calls P f args w fun e w'=>e=.returned v/\Below w.heap.size w w'):
 Calls P f args w fun e w''=>e=.returned v/\∃g':G w,w''=g'.W:=h.mono fun _ w' ⟨he,hb⟩=>⟨he,⟨⟨w',hb⟩,rfl⟩⟩
theorem G.deep {w:World}{g:G w}{o:Obj}(g':G (g.W.alloc o)):Below w.heap.size w g'.W:=(G.ball g o).trans (g'.below.mono (G.ball g o).size)
theorem eW (z:Int)(n r:Nat)(h:z=n)(hr:r=min n 65537)(w:World):Calls aq 229 #[.int .i64 z] w fun e w'=>e=.returned (.int .i64 (r:Int))/\Below w.heap.size w w':=by
 subst h hr;exact cut_calls n w
theorem aP {P:Program}{id:Nat}{Q:Exit->Act->World->Prop}{a:Act}{w:World}{g:G w}{l:List Oper}(hm:P.follows .mixedOrders=ac)(hB:Region.lexB .any l.toArray=ac)
 (h:wpQuiet P l.toArray (fun w'=>∃g:G w,w'=g.W) (fun a'=>∀w',(∃g:G w,w'=g.W)->Q .normal a' w') l a):(Code.region id l.toArray ac).wp P Q a g.W:=
 wp_region_quiet (C:=fun w'=>∃g:G w,w'=g.W) hm hB ⟨⟨_,g.below.drew⟩,rfl⟩ (by simpa using h)
def mkG {w w':World}(h:Below w.heap.size w w'):G w:=⟨w',h⟩
theorem for_cut (a t S K:Nat)(hK:0<K):min (min a K+min t K*(1+min S K)) K=min (a+t*(1+S)) K:=by
 rcases gh t K with ht | ht
 ·rw[db (Nat.le_of_lt ht)]
  rcases gh S K with hS | hS
  ·rw[db (Nat.le_of_lt hS)]
   generalize t*(1+S)=p
   omega
  ·rw[il hS]
   rcases cm t with rfl | h0
   ·rw[Nat.zero_mul,Nat.zero_mul];omega
   ·have h1:K<=t*(1+K):=bi (by omega:K<=1+K) (Nat.le_mul_of_pos_left _ h0)
    have h2:K<=t*(1+S):=bi (by omega:K<=1+S) (Nat.le_mul_of_pos_left _ h0)
    generalize t*(1+K)=p at*
    generalize t*(1+S)=q at*
    omega
 ·rw[il ht]
  have h1:K<=K*(1+min S K):=fu _ (by omega)
  have h2:K<=t*(1+S):=bi ht (fu _ (by omega))
  generalize K*(1+min S K)=p at*
  generalize t*(1+S)=q at*
  omega
theorem j4 {z:Int}(h0:0<=z)(h1:z<9223372036854775808):wrap64 z=z:=by unfold wrap64;omega
theorem for_sum (m t s:Nat)(hm:m<=65537)(ht:t<=65537)(hs:s<=65537):wrap64 ((m:Int)+wrap64 ((t:Int)*wrap64 (1+(s:Int))))=((m+t*(1+s):Nat):Int):=by
 have hp:t*(1+s)<=65537*65538:=Nat.mul_le_mul ht (by omega)
 have e:(t:Int)*(1+(s:Int))=((t*(1+s):Nat):Int):=by push_cast;rfl
 rw[j4 (z:=1+(s:Int)) (by omega) (by omega),e]
 generalize t*(1+s)=p at*
 rw[j4 (z:=(p:Int)) (by omega) (by omega),j4 (by omega) (by omega)]
 push_cast;rfl
def SizeC (f:FuncId)(cap:Nat)(l:List S119):Prop:=∀(A:Option Addr) (c:Nat) (w:World),dN.C w A l.length l->l.length<=c->
 Calls aq f #[.slice A l.length c] w fun e w'=>e=.returned (.int .i64 ((min (bV l) cap:Nat):Int))/\Below w.heap.size w w'
end
end Go.Proofs.YtfigjpehecibeaaGreat.L
namespace Go.Proofs.YtfigjpehecibeaaGreat.L
def eqS (a b:ByteArray):Bool:=decide (a.toList=b.toList)
def iT (l:List ByteArray)(s:ByteArray):Bool:=l.any (eqS · s)
def bB (n:Nat)(f:Nat->Bool):Option Nat:=(bu n).find? f
theorem bI {n:Nat}{f:Nat->Bool}(h:∀j,j<n->f j=J):bB n f=ai:=by
 unfold bB
 rw[List.find?_eq_none]
 intro x hx
 rw[h x (jg.1 hx)]
 decide
theorem cH {n i:Nat}{f:Nat->Bool}(hi:i<n)(hf:f i=ac)(h:∀j,j<i->f j=J):bB n f=af i:=by
 unfold bB
 rw[List.find?_range_eq_some]
 exact⟨hf,jg.2 hi,fun j hj=>by simp[h j hj]⟩
theorem dM (n:Nat)(f:Nat->Bool):(bB n f=ai/\∀j,j<n->f j=J)\/∃i,i<n/\bB n f=af i/\f i=ac/\∀j,j<i->f j=J:=by
 cases h:bB n f with
 |none=>
  refine .inl ⟨rfl,fun j hj=> ?_⟩
  have:=List.find?_eq_none.1 h j (jg.2 hj)
  simpa using this
 |some i=>
  have h2:=List.find?_range_eq_some.1 h
  exact .inr ⟨i,jg.1 h2.2.1,rfl,h2.1,fun j hj=>by simpa using h2.2.2 j hj⟩
theorem firstN_congr {n:Nat}{f g:Nat->Bool}(h:∀j,j<n->f j=g j):bB n f=bB n g:=by
 rcases dM n f with ⟨h1,h2⟩ | ⟨i,h0,h1,h2,h3⟩
 ·rw[h1,bI fun j hj=>(h j hj) ▸ h2 j hj]
 ·rw[h1,cH h0 ((h i h0) ▸ h2) fun j hj=>(h j (by omega)) ▸ h3 j hj]
inductive Th where
 |decl (i:Nat)
 |stmt (s:S119) (deep:Nat) (loops:List ByteArray)
 |expr (e:S116) (loops:List ByteArray)
mutual
def eB:S116->List ByteArray->List Th
 | ⟨a,b,c,l⟩,lo=>.expr ⟨a,b,c,l⟩ lo::fG l lo
def fG:List S116->List ByteArray->List Th
 | [],_=>[]
 |x::r,lo=>eB x lo++fG r lo
end
def inLoop (k:Int)(nm:ByteArray)(lo:List ByteArray):List ByteArray:=if k=4 then lo++[nm]else lo
mutual
def stTh:S119->Nat->List ByteArray->List Th
 | ⟨k,nm,at',e,l,h,th,el⟩,d,lo=>.stmt ⟨k,nm,at',e,l,h,th,el⟩ d lo::((if k=2 then eB at' lo else [])++(if k=1\/k=2\/k=3 then eB e lo else [])++(aN th (d+1) (inLoop k nm lo)++aN el (d+1) (inLoop k nm lo)))
def aN:List S119->Nat->List ByteArray->List Th
 | [],_,_=>[]
 |x::r,d,lo=>stTh x d lo++aN r d lo
end
theorem jF (x:S116)(lo:List ByteArray):eB x lo=.expr x lo::fG x.f3 lo:=by
 obtain⟨a,b,c,l⟩:=x
 rw[eB]
theorem rI (l:List S116)(x:S116)(lo:List ByteArray):fG (l++[x]) lo=fG l lo++eB x lo:=by
 induction l with
 |nil=>simp[fG]
 |cons y r ih=>rw[gu,fG,ih,fG,ef]
theorem d6 (x:S119)(d:Nat)(lo:List ByteArray):stTh x d lo=.stmt x d lo::((if x.f0=2 then eB x.f2 lo else [])++(if x.f0=1\/x.f0=2\/x.f0=3 then eB x.f3 lo else [])++(aN x.f6 (d+1) (inLoop x.f0 x.f1 lo)++aN x.f7 (d+1) (inLoop x.f0 x.f1 lo))):=by
 obtain⟨k,nm,at',e,l,h,th,el⟩:=x
 rw[stTh]
theorem fB (l:List S119)(x:S119)(d:Nat)(lo:List ByteArray):aN (l++[x]) d lo=aN l d lo++stTh x d lo:=by
 induction l with
 |nil=>simp[aN]
 |cons y r ih=>rw[gu,aN,ih,aN,ef]
def things (ds:List S70)(bd:List S119):List Th:=(bu ds.length).map .decl++aN bd 1 []
mutual
theorem cK:∀(x:S116) (lo:List ByteArray),(eB x lo).length=aM x
 | ⟨a,b,s,l⟩,lo=>by rw[eB,aM,List.length_cons,nG l lo];omega
theorem nG:∀(l:List S116) (lo:List ByteArray),(fG l lo).length=bN l
 | [],_=>by rw[fG,bN];rfl
 |x::r,lo=>by rw[fG,bN,ay,cK x lo,nG r lo]
end
mutual
theorem stTh_len:∀(x:S119) (d:Nat) (lo:List ByteArray),(stTh x d lo).length<=Ot.oQ x
 | ⟨k,nm,at',e,l,h,th,el⟩,d,lo=>by
   rw[stTh,Ot.oQ,List.length_cons,ay,ay,ay]
   have h1:(if k=2 then eB at' lo else []).length<=Ot.pR at':=by
    split
    ·rw[cK];exact aS _
    ·exact bh _
   have h2:(if k=1\/k=2\/k=3 then eB e lo else []).length<=Ot.pR e:=by
    split
    ·rw[cK];exact aS _
    ·exact bh _
   have h3:=dH th (d+1) (inLoop k nm lo)
   have h4:=dH el (d+1) (inLoop k nm lo)
   omega
theorem dH:∀(l:List S119) (d:Nat) (lo:List ByteArray),(aN l d lo).length<=Ot.cO l
 | [],_,_=>by rw[aN];exact bh _
 |x::r,d,lo=>by rw[aN,Ot.cO,ay];have:=stTh_len x d lo;have:=dH r d lo;omega
end
def dE (n:Int):Bool:=n==1||n==2||n==4||n==8||n==16||n==32||n==64||n==128||n==256
def cZ (w:Int):Bool:=w==4||w==8||w==16||w==32||w==64
def gT (w x:Int):Bool:=decide (64<=w)||decide (x<2 ^ w.toNat)
def cJ (ds:List S70)(nm:ByteArray):Option Nat:=bB ds.length fun i=>eqS (aI ds i).f1 nm
def cU (d:S70):Int:=if d.f2=0 then 1 else d.f2
def isIn (d:S70):Bool:=d.f0==1||d.f0==2
def dF (ds:List S70):Int:=((ds.filter isIn).map cU).sum
def dL (ds:List S70)(i:Nat):Bool:=(bB i fun j=>eqS (aI ds j).f1 (aI ds i).f1).isSome
def cC (ds:List S70)(i:Nat):Bool:=(aI ds i).f2 != 0&& !dE (aI ds i).f2
def bH (ds:List S70)(i:Nat):Bool:=(aI ds i).f0==3&&((aI ds i).f3.length:Int) != (aI ds i).f2
def cT (wd:Int)(ds:List S70)(i:Nat):Bool:=(aI ds i).f3.any fun v=> !gT wd v
def jS:Th->Option ByteArray
 | .decl _=>ai
 | .stmt s _ _=>if s.f0=1\/s.f0=2\/s.f0=5 then af s.f1 else ai
 | .expr e _=>if e.f0=2\/e.f0=3 then af e.f2 else ai
def gX:Th->List ByteArray
 | .decl _=>[]
 | .stmt _ _ l=>l
 | .expr _ l=>l
def sO (d:S70):Th->Bool
 | .decl _=>d.f2==0
 | .stmt s _ _=>if s.f0=2 then d.f2 != 0&&d.f0 != 3 else d.f2==0
 | .expr e _=>if e.f0=2 then d.f2==0 else d.f2 != 0
def pG:Th->Bool
 | .expr e _=>e.f0==2
 |_=>J
def sM (ds:List S70)(t:Th)(nm:ByteArray):Bool:=if iT (gX t) nm=ac then pG t else sO (aI ds ((cJ ds nm).getD 0)) t
def qY:Th->Bool
 | .decl _=>J
 | .stmt _ d _=>decide (64<d)
 | .expr e _=>decide (64<gP e)
def lJ (ds:List S70)(t:Th):Bool:=match jS t with
 |none=>J
 |some nm=> !iT (gX t) nm&&(cJ ds nm).isNone
def bad12 (ds:List S70)(t:Th):Bool:=match jS t with
 |none=>J
 |some nm=> !sM ds t nm
def bad13 (wd:Int):Th->Bool
 | .expr e _=>e.f0==1&& !gT wd e.f1
 |_=>J
def pU (wd:Int):Th->Bool
 | .stmt s _ _=>s.f0==4&&(decide (s.f5<s.f4)||(decide (0<s.f5)&& !gT wd (s.f5 - 1)))
 |_=>J
def pT (ds:List S70):Th->Bool
 | .stmt s _ l=>s.f0==4&&((cJ ds s.f1).isSome||iT l s.f1)
 |_=>J
def badC (wd:Int)(ds:List S70)(c:Nat):Th->Bool:=
 if c=10 then qY else if c=11 then lJ ds else if c=12 then bad12 ds else if c=13 then bad13 wd else if c=14 then pU wd else pT ds
def qH (c:Nat):Int:=if c=10 then 152 else if c=11 then 161 else if c=12 then 162 else if c=13 then 165 else if c=14 then 166 else 167
def bM (l:List Th)(i:Nat):Th:=l.getD i (.decl 0)
def bK (wd:Int)(ds:List S70)(l:List Th)(c:Nat):Option Nat:=bB l.length fun i=>badC wd ds c (bM l i)
structure Ans where
 c:Int
 at':Int
 e:Int
def dO (wd:Int)(ds:List S70)(bd:List S119)(l:List Th):Nat->Ans
 |0=>if 65536<bV bd then⟨16,-1,168⟩else⟨0,0,0⟩
 |n+1=>match bK wd ds l (15 - n)with
  |some i=>⟨((15 - n:Nat):Int),i,qH (15 - n)⟩
  |none=>dO wd ds bd l n
def fD (wd:Int)(ds:List S70)(bd:List S119):Ans:=match bB ds.length (dL ds)with
 |some i=>⟨5,i,160⟩
 |none=>match bB ds.length (cC ds)with
  |some i=>⟨6,i,163⟩
  |none=>match bB ds.length (bH ds)with
   |some i=>⟨7,i,164⟩
   |none=>match bB ds.length (cT wd ds)with
    |some i=>⟨8,i,165⟩
    |none=>if 4096<dF ds then⟨9,-1,169⟩else dO wd ds bd (things ds bd) 6
def bE (nm:ByteArray)(wd ln:Int)(ds:List S70)(bd:List S119):Ans:=
 if dP nm wd ln ds bd=J then⟨1,-1,1⟩
 else if cZ wd=J then⟨2,-1,5⟩
 else if dE ln=J then⟨3,-1,163⟩
 else if 256<ds.length then⟨4,-1,4⟩
 else fD wd ds bd
end Go.Proofs.YtfigjpehecibeaaGreat.L
