/- Texts joined by a program of mine: LsA5 LsBlt LsBgt LsB1 LsB2 LsB3 LsB4 LsB5 Lg Lh Li Lm Lk Ln Lo Ot Lp Ws. -/
import Derived.Test.YtfigjpehecibeaaGreatRows
import Derived.Test.YtfigjpehecibeaaGreatZh1
set_option maxRecDepth 100000
open And renaming intro -> aj
open Bool renaming true -> af, false -> ac
open ByteArray renaming empty -> gi
open Go.Proofs.Tryz renaming prog -> au, underlying3 -> kg, underlying74 -> ky, underlying9 -> jo
open Go.Proofs.YtfigjpehecibeaaGreatW.PrintWords.Aside0 renaming mk -> aa
open Go.Proofs.YtfigjpehecibeaaGreatW.PrintWords.Drawn0 renaming refl -> du, step -> dw
open Go.RowKit.Below renaming refl -> ar
open Go.Value renaming int -> bh
open Go.World renaming block_lt_of_cell? -> av
open Int renaming lt_or_le -> dh, toNat_natCast -> ax, natCast_nonneg -> bo
open List renaming eq_nil_of_length_eq_zero -> cw, isEmpty_eq_false_iff -> dz, isEmpty_iff -> ik, sizeOf_lt_of_mem -> gq, getD_eq_getElem?_getD -> aw, getElem?_eq_getElem -> az, getElem_mem -> gn, all_eq_true -> fw, getElem_of_mem -> gr, cons_append -> gp, mem_cons -> iv, take_length -> eu, drop_eq_nil_of_le -> jw, drop_eq_getElem_cons -> jd, getElem?_eq_some_iff -> fe, range -> bu, mem_range -> jg, append_assoc -> dr, length_cons -> jn, length_append -> ba
open Nat renaming le_refl -> aq, eq_zero_or_pos -> cq, zero_le -> bk, not_lt_zero -> da, lt_or_ge -> gu, mul_one -> ib, add_zero -> gm, min_eq_right -> iz, min_eq_left -> di, le_trans -> bi, le_mul_of_pos_right -> fu
open Option renaming none -> ak, some -> ag
open Option.some renaming inj -> cf
open Or renaming inl -> bc
open SizeOf renaming sizeOf -> cz
set_option linter.unusedVariables false
set_option linter.unusedSimpArgs false
set_option maxHeartbeats 8000000
namespace Go.Proofs.YtfigjpehecibeaaGreat.L
open Go.RowKit Go.Proofs.YtfigjpehecibeaaGreatW.PrintWords Go.Proofs.YtfigjpehecibeaaGreatW.PrintLast Go.Proofs.YtfigjpehecibeaaGreatW.PrintMore Go.Proofs.YtfigjpehecibeaaGreat.Gr
section
attribute [local go_sem] G.cell
theorem stmtForm_k5 (b:ByteArray)(cc d:S116)(e f:Int)(g hh:List S119){A5:Option Addr}{c5:Nat}{A9:Option Addr}{c9:Nat}{A12:Option Addr}{c12:Nat}{A13:Option Addr}{c13:Nat}(w:World)
 (L:Aside0 (cc.f3.length<=c5/\d.f3.length<=c9/\g.length<=c12/\hh.length<=c13)) (H:Aside0 (dC.C w A5 cc.f3.length cc.f3/\dC.C w A9 d.f3.length d.f3/\dN.C w A12 g.length g/\dN.C w A13 hh.length hh))
 (IH:Aside0 (∀l,l=g\/l=hh->kU 121 l)):
 Calls au 168 #[.agg #[.int .i64 5,.string b,.int .i64 cc.f0,.int .u64 cc.f1,.string cc.f2,.slice A5 cc.f3.length c5,.int .i64 d.f0,.int .u64 d.f1,.string d.f2,.slice A9 d.f3.length c9,.int .u64 e,.int .u64 f,.slice A12 g.length c12,.slice A13 hh.length c13]] w fun e' w'=>e'=.returned (.bool (aY ⟨5,b,cc,d,e,f,g,hh⟩&&bdB g&&bdB hh))/\Below w.heap.size w w':=by
 have gout:=@gA w;go_enter Tryz.func168,Tryz.ntmps168
 go_upto_region 1 with (fail)
 refine bG (by kernel_rfl) (by kernel_rfl) ?_
 repeat go_big_quiet_step (fail)
 refine wpQuiet_nil ?_;rintro _ ⟨gg,rfl⟩;go_wp2_with fail
 rcases aL (cQ b)with hh8 | hh8
 ·refine(aD (g:=gg) (fZ hh8 gg.W)).mono ?_;rintro _ _ ⟨rfl,gg,rfl⟩;go_wp2_with fail
  rcases aL (kA cc)with hh7 | hh7
  ·refine(aD (g:=gg) (lA hh7 _ _ gg.W (Kd.aF H.out.1 (gout gg)) L.out.1)).mono ?_;rintro _ _ ⟨rfl,gg,rfl⟩;go_wp2_with fail
   rcases aL (kA d)with hh6 | hh6
   ·refine(aD (g:=gg) (lA hh6 _ _ gg.W (Kd.aF H.out.2.1 (gout gg)) L.out.2.1)).mono ?_;rintro _ _ ⟨rfl,gg,rfl⟩
    rcases aL (e != 0)with hh5 | hh5
    ·have he5:¬e=0:=by simpa using hh5
     go_wp2_with fail;go_ret;exact⟨aC (by simp[aY,hh8,hh7,hh6,he5]),gout _⟩
    ·have he5:e=0:=by simpa using hh5
     rcases aL (f != 0)with hh4 | hh4
     ·have he4:¬f=0:=by simpa using hh4
      go_wp2_with fail;go_ret;exact⟨aC (by simp[aY,hh8,hh7,hh6,he5,he4]),gout _⟩
     ·have he4:f=0:=by simpa using hh4
      rcases cq g.length with hh3 | hh3
      ·have he3:g.isEmpty=af:=by rw[cw hh3];rfl
       have hn3:¬0<g.length:=by omega
       have hm3:decide (0<g.length)=ac:=decide_eq_false hn3;clear hh3
       rcases cq hh.length with hh2 | hh2
       ·have he2:hh.isEmpty=af:=by rw[cw hh2];rfl
        have hn2:¬0<hh.length:=by omega
        have hm2:decide (0<hh.length)=ac:=decide_eq_false hn2;clear hh2;go_wp2_with fail
        rcases aL (bdB g)with hh1 | hh1
        ·refine(aD (g:=gg) (cM (IH.out _ (bc rfl)) hh1 _ _ gg.W (Kd.aF H.out.2.2.1 (gout gg)) L.out.2.2.1)).mono ?_;rintro _ _ ⟨rfl,gg,rfl⟩;go_wp2_with fail
         rcases aL (bdB hh)with hh0 | hh0
         ·refine(aD (g:=gg) (cM (IH.out _ (Or.inr rfl)) hh0 _ _ gg.W (Kd.aF H.out.2.2.2 (gout gg)) L.out.2.2.2)).mono ?_;rintro _ _ ⟨rfl,gg,rfl⟩;go_wp2_with fail;go_ret;exact⟨aC (by simp[aY,hh8,hh7,hh6,he5,he4,he3,he2,hh1,hh0]),gout _⟩
         ·refine(aD (g:=gg) (cM (IH.out _ (Or.inr rfl)) hh0 _ _ gg.W (Kd.aF H.out.2.2.2 (gout gg)) L.out.2.2.2)).mono ?_;rintro _ _ ⟨rfl,gg,rfl⟩;go_wp2_with fail;go_ret;exact⟨aC (by simp[aY,hh8,hh7,hh6,he5,he4,he3,he2,hh1,hh0]),gout _⟩
        ·refine(aD (g:=gg) (cM (IH.out _ (bc rfl)) hh1 _ _ gg.W (Kd.aF H.out.2.2.1 (gout gg)) L.out.2.2.1)).mono ?_;rintro _ _ ⟨rfl,gg,rfl⟩;go_wp2_with fail;go_ret;exact⟨aC (by simp[aY,hh8,hh7,hh6,he5,he4,he3,he2,hh1]),gout _⟩
       ·have he2:hh.isEmpty=ac:=by rw[dz];rintro rfl;exact absurd hh2 (by simp)
        go_wp2_with fail;go_ret;exact⟨aC (by simp[aY,hh8,hh7,hh6,he5,he4,he3,he2]),gout _⟩
      ·have he3:g.isEmpty=ac:=by rw[dz];rintro rfl;exact absurd hh3 (by simp)
       go_wp2_with fail;go_ret;exact⟨aC (by simp[aY,hh8,hh7,hh6,he5,he4,he3]),gout _⟩
   ·refine(aD (g:=gg) (lA hh6 _ _ gg.W (Kd.aF H.out.2.1 (gout gg)) L.out.2.1)).mono ?_;rintro _ _ ⟨rfl,gg,rfl⟩;go_wp2_with fail;go_ret;exact⟨aC (by simp[aY,hh8,hh7,hh6]),gout _⟩
  ·refine(aD (g:=gg) (lA hh7 _ _ gg.W (Kd.aF H.out.1 (gout gg)) L.out.1)).mono ?_;rintro _ _ ⟨rfl,gg,rfl⟩;go_wp2_with fail;go_ret;exact⟨aC (by simp[aY,hh8,hh7]),gout _⟩
 ·refine(aD (g:=gg) (fZ hh8 gg.W)).mono ?_;rintro _ _ ⟨rfl,gg,rfl⟩;go_wp2_with fail;go_ret;exact⟨aC (by simp[aY,hh8]),gout _⟩
end
section
attribute [local go_sem] G.cell
theorem sR (a:Int)(h1:a<1)(b:ByteArray)(cc d:S116)(e f:Int)(g hh:List S119){A5:Option Addr}{c5:Nat}{A9:Option Addr}{c9:Nat}{A12:Option Addr}{c12:Nat}{A13:Option Addr}{c13:Nat}(w:World)
 (L:Aside0 (cc.f3.length<=c5/\d.f3.length<=c9/\g.length<=c12/\hh.length<=c13)) (H:Aside0 (dC.C w A5 cc.f3.length cc.f3/\dC.C w A9 d.f3.length d.f3/\dN.C w A12 g.length g/\dN.C w A13 hh.length hh))
 (IH:Aside0 (∀l,l=g\/l=hh->kU 126 l)):
 Calls au 172 #[.agg #[.int .i64 a,.string b,.int .i64 cc.f0,.int .u64 cc.f1,.string cc.f2,.slice A5 cc.f3.length c5,.int .i64 d.f0,.int .u64 d.f1,.string d.f2,.slice A9 d.f3.length c9,.int .u64 e,.int .u64 f,.slice A12 g.length c12,.slice A13 hh.length c13]] w fun e' w'=>e'=.returned (.bool (aY ⟨a,b,cc,d,e,f,g,hh⟩&&bdB g&&bdB hh))/\Below w.heap.size w w':=by
 have gout:=@gA w
 have h0:aY ⟨a,b,cc,d,e,f,g,hh⟩=ac:=by simp[aY];omega
 rw[h0]
 have e2:(a==2)=ac:=by simp;omega
 have e3:(a==3)=ac:=by simp;omega
 have e4:(a==4)=ac:=by simp;omega
 clear h0;go_enter Tryz.func172,Tryz.ntmps172
 go_upto_region 1 with (fail)
 refine bE ?_;intro gg;go_wp2_with fail;go_ret;exact⟨aC (by simp),gout _⟩
end
section
attribute [local go_sem] G.cell
theorem rM (a:Int)(h1:¬a<1)(h2:a > 5)(b:ByteArray)(cc d:S116)(e f:Int)(g hh:List S119){A5:Option Addr}{c5:Nat}{A9:Option Addr}{c9:Nat}{A12:Option Addr}{c12:Nat}{A13:Option Addr}{c13:Nat}(w:World)
 (L:Aside0 (cc.f3.length<=c5/\d.f3.length<=c9/\g.length<=c12/\hh.length<=c13)) (H:Aside0 (dC.C w A5 cc.f3.length cc.f3/\dC.C w A9 d.f3.length d.f3/\dN.C w A12 g.length g/\dN.C w A13 hh.length hh))
 (IH:Aside0 (∀l,l=g\/l=hh->kU 126 l)):
 Calls au 172 #[.agg #[.int .i64 a,.string b,.int .i64 cc.f0,.int .u64 cc.f1,.string cc.f2,.slice A5 cc.f3.length c5,.int .i64 d.f0,.int .u64 d.f1,.string d.f2,.slice A9 d.f3.length c9,.int .u64 e,.int .u64 f,.slice A12 g.length c12,.slice A13 hh.length c13]] w fun e' w'=>e'=.returned (.bool (aY ⟨a,b,cc,d,e,f,g,hh⟩&&bdB g&&bdB hh))/\Below w.heap.size w w':=by
 have gout:=@gA w
 have h0:aY ⟨a,b,cc,d,e,f,g,hh⟩=ac:=by simp[aY];omega
 rw[h0]
 have e2:(a==2)=ac:=by simp;omega
 have e3:(a==3)=ac:=by simp;omega
 have e4:(a==4)=ac:=by simp;omega
 clear h0;go_enter Tryz.func172,Tryz.ntmps172
 go_upto_region 1 with (fail)
 refine bE ?_;intro gg;go_wp2_with fail;go_ret;exact⟨aC (by simp),gout _⟩
end
section
attribute [local go_sem] G.cell
theorem refStmtForm_k1 (b:ByteArray)(cc d:S116)(e f:Int)(g hh:List S119){A5:Option Addr}{c5:Nat}{A9:Option Addr}{c9:Nat}{A12:Option Addr}{c12:Nat}{A13:Option Addr}{c13:Nat}(w:World)
 (L:Aside0 (cc.f3.length<=c5/\d.f3.length<=c9/\g.length<=c12/\hh.length<=c13)) (H:Aside0 (dC.C w A5 cc.f3.length cc.f3/\dC.C w A9 d.f3.length d.f3/\dN.C w A12 g.length g/\dN.C w A13 hh.length hh))
 (IH:Aside0 (∀l,l=g\/l=hh->kU 126 l)):
 Calls au 172 #[.agg #[.int .i64 1,.string b,.int .i64 cc.f0,.int .u64 cc.f1,.string cc.f2,.slice A5 cc.f3.length c5,.int .i64 d.f0,.int .u64 d.f1,.string d.f2,.slice A9 d.f3.length c9,.int .u64 e,.int .u64 f,.slice A12 g.length c12,.slice A13 hh.length c13]] w fun e' w'=>e'=.returned (.bool (aY ⟨1,b,cc,d,e,f,g,hh⟩&&bdB g&&bdB hh))/\Below w.heap.size w w':=by
 have gout:=@gA w;go_enter Tryz.func172,Tryz.ntmps172
 go_upto_region 1 with (fail)
 refine bE ?_;intro gg
 rcases aL b.toList.isEmpty with hh9 | hh9
 ·have he9:b.toList=[]:=by exact ik.1 hh9
  have hf9:=kV he9;go_wp2_with fail;go_ret;exact⟨aC (by simp[aY,hf9]),gout _⟩
 ·have he9:¬b.toList=[]:=by intro h;rw[h]at hh9;exact absurd hh9 (by decide)
  go_wp2_with fail
  rcases aL (cQ b)with hh8 | hh8
  ·refine(aD (g:=gg) (dV hh8 gg.W)).mono ?_;rintro _ _ ⟨rfl,gg,rfl⟩;go_wp2_with fail
   rcases aL (kA cc)with hh7 | hh7
   ·refine(aD (g:=gg) (eM hh7 _ _ gg.W (Kd.aF H.out.1 (gout gg)) L.out.1)).mono ?_;rintro _ _ ⟨rfl,gg,rfl⟩;go_wp2_with fail
    rcases aL (exB d)with hh6 | hh6
    ·refine(aD (g:=gg) (dX hh6 _ _ gg.W (Kd.aF H.out.2.1 (gout gg)) L.out.2.1)).mono ?_;rintro _ _ ⟨rfl,gg,rfl⟩
     rcases aL (e != 0)with hh5 | hh5
     ·have he5:¬e=0:=by simpa using hh5
      go_wp2_with fail;go_ret;exact⟨aC (by simp[aY,hh9,hh8,hh7,hh6,he5]),gout _⟩
     ·have he5:e=0:=by simpa using hh5
      rcases aL (f != 0)with hh4 | hh4
      ·have he4:¬f=0:=by simpa using hh4
       go_wp2_with fail;go_ret;exact⟨aC (by simp[aY,hh9,hh8,hh7,hh6,he5,he4]),gout _⟩
      ·have he4:f=0:=by simpa using hh4
       rcases cq hh.length with hh3 | hh3
       ·have he3:hh.isEmpty=af:=by rw[cw hh3];rfl
        have hn3:¬0<hh.length:=by omega
        have hm3:decide (0<hh.length)=ac:=decide_eq_false hn3;clear hh3
        rcases cq g.length with hh2 | hh2
        ·have he2:g.isEmpty=af:=by rw[cw hh2];rfl
         have hn2:¬0<g.length:=by omega
         have hm2:decide (0<g.length)=ac:=decide_eq_false hn2;clear hh2;go_wp2_with fail
         rcases aL (bdB g)with hh1 | hh1
         ·refine(aD (g:=gg) (cM (IH.out _ (bc rfl)) hh1 _ _ gg.W (Kd.aF H.out.2.2.1 (gout gg)) L.out.2.2.1)).mono ?_;rintro _ _ ⟨rfl,gg,rfl⟩;go_wp2_with fail
          rcases aL (bdB hh)with hh0 | hh0
          ·refine(aD (g:=gg) (cM (IH.out _ (Or.inr rfl)) hh0 _ _ gg.W (Kd.aF H.out.2.2.2 (gout gg)) L.out.2.2.2)).mono ?_;rintro _ _ ⟨rfl,gg,rfl⟩;go_wp2_with fail;go_ret;exact⟨aC (by simp[aY,hh9,hh8,hh7,hh6,he5,he4,he3,he2,hh1,hh0]),gout _⟩
          ·refine(aD (g:=gg) (cM (IH.out _ (Or.inr rfl)) hh0 _ _ gg.W (Kd.aF H.out.2.2.2 (gout gg)) L.out.2.2.2)).mono ?_;rintro _ _ ⟨rfl,gg,rfl⟩;go_wp2_with fail;go_ret;exact⟨aC (by simp[aY,hh9,hh8,hh7,hh6,he5,he4,he3,he2,hh1,hh0]),gout _⟩
         ·refine(aD (g:=gg) (cM (IH.out _ (bc rfl)) hh1 _ _ gg.W (Kd.aF H.out.2.2.1 (gout gg)) L.out.2.2.1)).mono ?_;rintro _ _ ⟨rfl,gg,rfl⟩;go_wp2_with fail;go_ret;exact⟨aC (by simp[aY,hh9,hh8,hh7,hh6,he5,he4,he3,he2,hh1]),gout _⟩
        ·have he2:g.isEmpty=ac:=by rw[dz];rintro rfl;exact absurd hh2 (by simp)
         go_wp2_with fail;go_ret;exact⟨aC (by simp[aY,hh9,hh8,hh7,hh6,he5,he4,he3,he2]),gout _⟩
       ·have he3:hh.isEmpty=ac:=by rw[dz];rintro rfl;exact absurd hh3 (by simp)
        go_wp2_with fail;go_ret;exact⟨aC (by simp[aY,hh9,hh8,hh7,hh6,he5,he4,he3]),gout _⟩
    ·refine(aD (g:=gg) (dX hh6 _ _ gg.W (Kd.aF H.out.2.1 (gout gg)) L.out.2.1)).mono ?_;rintro _ _ ⟨rfl,gg,rfl⟩;go_wp2_with fail;go_ret;exact⟨aC (by simp[aY,hh9,hh8,hh7,hh6]),gout _⟩
   ·refine(aD (g:=gg) (eM hh7 _ _ gg.W (Kd.aF H.out.1 (gout gg)) L.out.1)).mono ?_;rintro _ _ ⟨rfl,gg,rfl⟩;go_wp2_with fail;go_ret;exact⟨aC (by simp[aY,hh9,hh8,hh7]),gout _⟩
  ·refine(aD (g:=gg) (dV hh8 gg.W)).mono ?_;rintro _ _ ⟨rfl,gg,rfl⟩;go_wp2_with fail;go_ret;exact⟨aC (by simp[aY,hh9,hh8]),gout _⟩
end
section
attribute [local go_sem] G.cell
theorem refStmtForm_k2 (b:ByteArray)(cc d:S116)(e f:Int)(g hh:List S119){A5:Option Addr}{c5:Nat}{A9:Option Addr}{c9:Nat}{A12:Option Addr}{c12:Nat}{A13:Option Addr}{c13:Nat}(w:World)
 (L:Aside0 (cc.f3.length<=c5/\d.f3.length<=c9/\g.length<=c12/\hh.length<=c13)) (H:Aside0 (dC.C w A5 cc.f3.length cc.f3/\dC.C w A9 d.f3.length d.f3/\dN.C w A12 g.length g/\dN.C w A13 hh.length hh))
 (IH:Aside0 (∀l,l=g\/l=hh->kU 126 l)):
 Calls au 172 #[.agg #[.int .i64 2,.string b,.int .i64 cc.f0,.int .u64 cc.f1,.string cc.f2,.slice A5 cc.f3.length c5,.int .i64 d.f0,.int .u64 d.f1,.string d.f2,.slice A9 d.f3.length c9,.int .u64 e,.int .u64 f,.slice A12 g.length c12,.slice A13 hh.length c13]] w fun e' w'=>e'=.returned (.bool (aY ⟨2,b,cc,d,e,f,g,hh⟩&&bdB g&&bdB hh))/\Below w.heap.size w w':=by
 have gout:=@gA w;go_enter Tryz.func172,Tryz.ntmps172
 go_upto_region 1 with (fail)
 refine bE ?_;intro gg
 rcases aL b.toList.isEmpty with hh9 | hh9
 ·have he9:b.toList=[]:=by exact ik.1 hh9
  have hf9:=kV he9;go_wp2_with fail;go_ret;exact⟨aC (by simp[aY,hf9]),gout _⟩
 ·have he9:¬b.toList=[]:=by intro h;rw[h]at hh9;exact absurd hh9 (by decide)
  go_wp2_with fail
  rcases aL (cQ b)with hh8 | hh8
  ·refine(aD (g:=gg) (dV hh8 gg.W)).mono ?_;rintro _ _ ⟨rfl,gg,rfl⟩;go_wp2_with fail
   rcases aL (exB cc)with hh7 | hh7
   ·refine(aD (g:=gg) (dX hh7 _ _ gg.W (Kd.aF H.out.1 (gout gg)) L.out.1)).mono ?_;rintro _ _ ⟨rfl,gg,rfl⟩;go_wp2_with fail
    rcases aL (exB d)with hh6 | hh6
    ·refine(aD (g:=gg) (dX hh6 _ _ gg.W (Kd.aF H.out.2.1 (gout gg)) L.out.2.1)).mono ?_;rintro _ _ ⟨rfl,gg,rfl⟩
     rcases aL (e != 0)with hh5 | hh5
     ·have he5:¬e=0:=by simpa using hh5
      go_wp2_with fail;go_ret;exact⟨aC (by simp[aY,hh9,hh8,hh7,hh6,he5]),gout _⟩
     ·have he5:e=0:=by simpa using hh5
      rcases aL (f != 0)with hh4 | hh4
      ·have he4:¬f=0:=by simpa using hh4
       go_wp2_with fail;go_ret;exact⟨aC (by simp[aY,hh9,hh8,hh7,hh6,he5,he4]),gout _⟩
      ·have he4:f=0:=by simpa using hh4
       rcases cq hh.length with hh3 | hh3
       ·have he3:hh.isEmpty=af:=by rw[cw hh3];rfl
        have hn3:¬0<hh.length:=by omega
        have hm3:decide (0<hh.length)=ac:=decide_eq_false hn3;clear hh3
        rcases cq g.length with hh2 | hh2
        ·have he2:g.isEmpty=af:=by rw[cw hh2];rfl
         have hn2:¬0<g.length:=by omega
         have hm2:decide (0<g.length)=ac:=decide_eq_false hn2;clear hh2;go_wp2_with fail
         rcases aL (bdB g)with hh1 | hh1
         ·refine(aD (g:=gg) (cM (IH.out _ (bc rfl)) hh1 _ _ gg.W (Kd.aF H.out.2.2.1 (gout gg)) L.out.2.2.1)).mono ?_;rintro _ _ ⟨rfl,gg,rfl⟩;go_wp2_with fail
          rcases aL (bdB hh)with hh0 | hh0
          ·refine(aD (g:=gg) (cM (IH.out _ (Or.inr rfl)) hh0 _ _ gg.W (Kd.aF H.out.2.2.2 (gout gg)) L.out.2.2.2)).mono ?_;rintro _ _ ⟨rfl,gg,rfl⟩;go_wp2_with fail;go_ret;exact⟨aC (by simp[aY,hh9,hh8,hh7,hh6,he5,he4,he3,he2,hh1,hh0]),gout _⟩
          ·refine(aD (g:=gg) (cM (IH.out _ (Or.inr rfl)) hh0 _ _ gg.W (Kd.aF H.out.2.2.2 (gout gg)) L.out.2.2.2)).mono ?_;rintro _ _ ⟨rfl,gg,rfl⟩;go_wp2_with fail;go_ret;exact⟨aC (by simp[aY,hh9,hh8,hh7,hh6,he5,he4,he3,he2,hh1,hh0]),gout _⟩
         ·refine(aD (g:=gg) (cM (IH.out _ (bc rfl)) hh1 _ _ gg.W (Kd.aF H.out.2.2.1 (gout gg)) L.out.2.2.1)).mono ?_;rintro _ _ ⟨rfl,gg,rfl⟩;go_wp2_with fail;go_ret;exact⟨aC (by simp[aY,hh9,hh8,hh7,hh6,he5,he4,he3,he2,hh1]),gout _⟩
        ·have he2:g.isEmpty=ac:=by rw[dz];rintro rfl;exact absurd hh2 (by simp)
         go_wp2_with fail;go_ret;exact⟨aC (by simp[aY,hh9,hh8,hh7,hh6,he5,he4,he3,he2]),gout _⟩
       ·have he3:hh.isEmpty=ac:=by rw[dz];rintro rfl;exact absurd hh3 (by simp)
        go_wp2_with fail;go_ret;exact⟨aC (by simp[aY,hh9,hh8,hh7,hh6,he5,he4,he3]),gout _⟩
    ·refine(aD (g:=gg) (dX hh6 _ _ gg.W (Kd.aF H.out.2.1 (gout gg)) L.out.2.1)).mono ?_;rintro _ _ ⟨rfl,gg,rfl⟩;go_wp2_with fail;go_ret;exact⟨aC (by simp[aY,hh9,hh8,hh7,hh6]),gout _⟩
   ·refine(aD (g:=gg) (dX hh7 _ _ gg.W (Kd.aF H.out.1 (gout gg)) L.out.1)).mono ?_;rintro _ _ ⟨rfl,gg,rfl⟩;go_wp2_with fail;go_ret;exact⟨aC (by simp[aY,hh9,hh8,hh7]),gout _⟩
  ·refine(aD (g:=gg) (dV hh8 gg.W)).mono ?_;rintro _ _ ⟨rfl,gg,rfl⟩;go_wp2_with fail;go_ret;exact⟨aC (by simp[aY,hh9,hh8]),gout _⟩
end
section
attribute [local go_sem] G.cell
theorem refStmtForm_k3 (b:ByteArray)(cc d:S116)(e f:Int)(g hh:List S119){A5:Option Addr}{c5:Nat}{A9:Option Addr}{c9:Nat}{A12:Option Addr}{c12:Nat}{A13:Option Addr}{c13:Nat}(w:World)
 (L:Aside0 (cc.f3.length<=c5/\d.f3.length<=c9/\g.length<=c12/\hh.length<=c13)) (H:Aside0 (dC.C w A5 cc.f3.length cc.f3/\dC.C w A9 d.f3.length d.f3/\dN.C w A12 g.length g/\dN.C w A13 hh.length hh))
 (IH:Aside0 (∀l,l=g\/l=hh->kU 126 l)):
 Calls au 172 #[.agg #[.int .i64 3,.string b,.int .i64 cc.f0,.int .u64 cc.f1,.string cc.f2,.slice A5 cc.f3.length c5,.int .i64 d.f0,.int .u64 d.f1,.string d.f2,.slice A9 d.f3.length c9,.int .u64 e,.int .u64 f,.slice A12 g.length c12,.slice A13 hh.length c13]] w fun e' w'=>e'=.returned (.bool (aY ⟨3,b,cc,d,e,f,g,hh⟩&&bdB g&&bdB hh))/\Below w.heap.size w w':=by
 have gout:=@gA w;go_enter Tryz.func172,Tryz.ntmps172
 go_upto_region 1 with (fail)
 refine bE ?_;intro gg
 rcases aL b.toList.isEmpty with hh6 | hh6
 ·have he6:b.toList=[]:=by exact ik.1 hh6
  go_wp2_with fail
  rcases aL (kA cc)with hh5 | hh5
  ·refine(aD (g:=gg) (eM hh5 _ _ gg.W (Kd.aF H.out.1 (gout gg)) L.out.1)).mono ?_;rintro _ _ ⟨rfl,gg,rfl⟩;go_wp2_with fail
   rcases aL (exB d)with hh4 | hh4
   ·refine(aD (g:=gg) (dX hh4 _ _ gg.W (Kd.aF H.out.2.1 (gout gg)) L.out.2.1)).mono ?_;rintro _ _ ⟨rfl,gg,rfl⟩
    rcases aL (e != 0)with hh3 | hh3
    ·have he3:¬e=0:=by simpa using hh3
     go_wp2_with fail;go_ret;exact⟨aC (by simp[aY,hh6,hh5,hh4,he3]),gout _⟩
    ·have he3:e=0:=by simpa using hh3
     rcases aL (f != 0)with hh2 | hh2
     ·have he2:¬f=0:=by simpa using hh2
      go_wp2_with fail;go_ret;exact⟨aC (by simp[aY,hh6,hh5,hh4,he3,he2]),gout _⟩
     ·have he2:f=0:=by simpa using hh2
      go_wp2_with fail
      rcases aL (bdB g)with hh1 | hh1
      ·refine(aD (g:=gg) (cM (IH.out _ (bc rfl)) hh1 _ _ gg.W (Kd.aF H.out.2.2.1 (gout gg)) L.out.2.2.1)).mono ?_;rintro _ _ ⟨rfl,gg,rfl⟩;go_wp2_with fail
       rcases aL (bdB hh)with hh0 | hh0
       ·refine(aD (g:=gg) (cM (IH.out _ (Or.inr rfl)) hh0 _ _ gg.W (Kd.aF H.out.2.2.2 (gout gg)) L.out.2.2.2)).mono ?_;rintro _ _ ⟨rfl,gg,rfl⟩;go_wp2_with fail;go_ret;exact⟨aC (by simp[aY,hh6,hh5,hh4,he3,he2,hh1,hh0]),gout _⟩
       ·refine(aD (g:=gg) (cM (IH.out _ (Or.inr rfl)) hh0 _ _ gg.W (Kd.aF H.out.2.2.2 (gout gg)) L.out.2.2.2)).mono ?_;rintro _ _ ⟨rfl,gg,rfl⟩;go_wp2_with fail;go_ret;exact⟨aC (by simp[aY,hh6,hh5,hh4,he3,he2,hh1,hh0]),gout _⟩
      ·refine(aD (g:=gg) (cM (IH.out _ (bc rfl)) hh1 _ _ gg.W (Kd.aF H.out.2.2.1 (gout gg)) L.out.2.2.1)).mono ?_;rintro _ _ ⟨rfl,gg,rfl⟩;go_wp2_with fail;go_ret;exact⟨aC (by simp[aY,hh6,hh5,hh4,he3,he2,hh1]),gout _⟩
   ·refine(aD (g:=gg) (dX hh4 _ _ gg.W (Kd.aF H.out.2.1 (gout gg)) L.out.2.1)).mono ?_;rintro _ _ ⟨rfl,gg,rfl⟩;go_wp2_with fail;go_ret;exact⟨aC (by simp[aY,hh6,hh5,hh4]),gout _⟩
  ·refine(aD (g:=gg) (eM hh5 _ _ gg.W (Kd.aF H.out.1 (gout gg)) L.out.1)).mono ?_;rintro _ _ ⟨rfl,gg,rfl⟩;go_wp2_with fail;go_ret;exact⟨aC (by simp[aY,hh6,hh5]),gout _⟩
 ·have he6:¬b.toList=[]:=by intro h;rw[h]at hh6;exact absurd hh6 (by decide)
  go_wp2_with fail;go_ret;exact⟨aC (by simp[aY,hh6]),gout _⟩
end
section
attribute [local go_sem] G.cell
theorem refStmtForm_k4 (b:ByteArray)(cc d:S116)(e f:Int)(g hh:List S119){A5:Option Addr}{c5:Nat}{A9:Option Addr}{c9:Nat}{A12:Option Addr}{c12:Nat}{A13:Option Addr}{c13:Nat}(w:World)
 (L:Aside0 (cc.f3.length<=c5/\d.f3.length<=c9/\g.length<=c12/\hh.length<=c13)) (H:Aside0 (dC.C w A5 cc.f3.length cc.f3/\dC.C w A9 d.f3.length d.f3/\dN.C w A12 g.length g/\dN.C w A13 hh.length hh))
 (IH:Aside0 (∀l,l=g\/l=hh->kU 126 l)):
 Calls au 172 #[.agg #[.int .i64 4,.string b,.int .i64 cc.f0,.int .u64 cc.f1,.string cc.f2,.slice A5 cc.f3.length c5,.int .i64 d.f0,.int .u64 d.f1,.string d.f2,.slice A9 d.f3.length c9,.int .u64 e,.int .u64 f,.slice A12 g.length c12,.slice A13 hh.length c13]] w fun e' w'=>e'=.returned (.bool (aY ⟨4,b,cc,d,e,f,g,hh⟩&&bdB g&&bdB hh))/\Below w.heap.size w w':=by
 have gout:=@gA w;go_enter Tryz.func172,Tryz.ntmps172
 go_upto_region 1 with (fail)
 refine bE ?_;intro gg
 rcases aL b.toList.isEmpty with hh6 | hh6
 ·have he6:b.toList=[]:=by exact ik.1 hh6
  have hf6:=kV he6;go_wp2_with fail;go_ret;exact⟨aC (by simp[aY,hf6]),gout _⟩
 ·have he6:¬b.toList=[]:=by intro h;rw[h]at hh6;exact absurd hh6 (by decide)
  go_wp2_with fail
  rcases aL (cQ b)with hh5 | hh5
  ·refine(aD (g:=gg) (dV hh5 gg.W)).mono ?_;rintro _ _ ⟨rfl,gg,rfl⟩;go_wp2_with fail
   rcases aL (kA cc)with hh4 | hh4
   ·refine(aD (g:=gg) (eM hh4 _ _ gg.W (Kd.aF H.out.1 (gout gg)) L.out.1)).mono ?_;rintro _ _ ⟨rfl,gg,rfl⟩;go_wp2_with fail
    rcases aL (kA d)with hh3 | hh3
    ·refine(aD (g:=gg) (eM hh3 _ _ gg.W (Kd.aF H.out.2.1 (gout gg)) L.out.2.1)).mono ?_;rintro _ _ ⟨rfl,gg,rfl⟩
     rcases cq hh.length with hh2 | hh2
     ·have he2:hh.isEmpty=af:=by rw[cw hh2];rfl
      have hn2:¬0<hh.length:=by omega
      have hm2:decide (0<hh.length)=ac:=decide_eq_false hn2;clear hh2;go_wp2_with fail
      rcases aL (bdB g)with hh1 | hh1
      ·refine(aD (g:=gg) (cM (IH.out _ (bc rfl)) hh1 _ _ gg.W (Kd.aF H.out.2.2.1 (gout gg)) L.out.2.2.1)).mono ?_;rintro _ _ ⟨rfl,gg,rfl⟩;go_wp2_with fail
       rcases aL (bdB hh)with hh0 | hh0
       ·refine(aD (g:=gg) (cM (IH.out _ (Or.inr rfl)) hh0 _ _ gg.W (Kd.aF H.out.2.2.2 (gout gg)) L.out.2.2.2)).mono ?_;rintro _ _ ⟨rfl,gg,rfl⟩;go_wp2_with fail;go_ret;exact⟨aC (by simp[aY,hh6,hh5,hh4,hh3,he2,hh1,hh0]),gout _⟩
       ·refine(aD (g:=gg) (cM (IH.out _ (Or.inr rfl)) hh0 _ _ gg.W (Kd.aF H.out.2.2.2 (gout gg)) L.out.2.2.2)).mono ?_;rintro _ _ ⟨rfl,gg,rfl⟩;go_wp2_with fail;go_ret;exact⟨aC (by simp[aY,hh6,hh5,hh4,hh3,he2,hh1,hh0]),gout _⟩
      ·refine(aD (g:=gg) (cM (IH.out _ (bc rfl)) hh1 _ _ gg.W (Kd.aF H.out.2.2.1 (gout gg)) L.out.2.2.1)).mono ?_;rintro _ _ ⟨rfl,gg,rfl⟩;go_wp2_with fail;go_ret;exact⟨aC (by simp[aY,hh6,hh5,hh4,hh3,he2,hh1]),gout _⟩
     ·have he2:hh.isEmpty=ac:=by rw[dz];rintro rfl;exact absurd hh2 (by simp)
      go_wp2_with fail;go_ret;exact⟨aC (by simp[aY,hh6,hh5,hh4,hh3,he2]),gout _⟩
    ·refine(aD (g:=gg) (eM hh3 _ _ gg.W (Kd.aF H.out.2.1 (gout gg)) L.out.2.1)).mono ?_;rintro _ _ ⟨rfl,gg,rfl⟩;go_wp2_with fail;go_ret;exact⟨aC (by simp[aY,hh6,hh5,hh4,hh3]),gout _⟩
   ·refine(aD (g:=gg) (eM hh4 _ _ gg.W (Kd.aF H.out.1 (gout gg)) L.out.1)).mono ?_;rintro _ _ ⟨rfl,gg,rfl⟩;go_wp2_with fail;go_ret;exact⟨aC (by simp[aY,hh6,hh5,hh4]),gout _⟩
  ·refine(aD (g:=gg) (dV hh5 gg.W)).mono ?_;rintro _ _ ⟨rfl,gg,rfl⟩;go_wp2_with fail;go_ret;exact⟨aC (by simp[aY,hh6,hh5]),gout _⟩
end
section
attribute [local go_sem] G.cell
theorem refStmtForm_k5 (b:ByteArray)(cc d:S116)(e f:Int)(g hh:List S119){A5:Option Addr}{c5:Nat}{A9:Option Addr}{c9:Nat}{A12:Option Addr}{c12:Nat}{A13:Option Addr}{c13:Nat}(w:World)
 (L:Aside0 (cc.f3.length<=c5/\d.f3.length<=c9/\g.length<=c12/\hh.length<=c13)) (H:Aside0 (dC.C w A5 cc.f3.length cc.f3/\dC.C w A9 d.f3.length d.f3/\dN.C w A12 g.length g/\dN.C w A13 hh.length hh))
 (IH:Aside0 (∀l,l=g\/l=hh->kU 126 l)):
 Calls au 172 #[.agg #[.int .i64 5,.string b,.int .i64 cc.f0,.int .u64 cc.f1,.string cc.f2,.slice A5 cc.f3.length c5,.int .i64 d.f0,.int .u64 d.f1,.string d.f2,.slice A9 d.f3.length c9,.int .u64 e,.int .u64 f,.slice A12 g.length c12,.slice A13 hh.length c13]] w fun e' w'=>e'=.returned (.bool (aY ⟨5,b,cc,d,e,f,g,hh⟩&&bdB g&&bdB hh))/\Below w.heap.size w w':=by
 have gout:=@gA w;go_enter Tryz.func172,Tryz.ntmps172
 go_upto_region 1 with (fail)
 refine bE ?_;intro gg
 rcases aL b.toList.isEmpty with hh9 | hh9
 ·have he9:b.toList=[]:=by exact ik.1 hh9
  have hf9:=kV he9;go_wp2_with fail;go_ret;exact⟨aC (by simp[aY,hf9]),gout _⟩
 ·have he9:¬b.toList=[]:=by intro h;rw[h]at hh9;exact absurd hh9 (by decide)
  go_wp2_with fail
  rcases aL (cQ b)with hh8 | hh8
  ·refine(aD (g:=gg) (dV hh8 gg.W)).mono ?_;rintro _ _ ⟨rfl,gg,rfl⟩;go_wp2_with fail
   rcases aL (kA cc)with hh7 | hh7
   ·refine(aD (g:=gg) (eM hh7 _ _ gg.W (Kd.aF H.out.1 (gout gg)) L.out.1)).mono ?_;rintro _ _ ⟨rfl,gg,rfl⟩;go_wp2_with fail
    rcases aL (kA d)with hh6 | hh6
    ·refine(aD (g:=gg) (eM hh6 _ _ gg.W (Kd.aF H.out.2.1 (gout gg)) L.out.2.1)).mono ?_;rintro _ _ ⟨rfl,gg,rfl⟩
     rcases aL (e != 0)with hh5 | hh5
     ·have he5:¬e=0:=by simpa using hh5
      go_wp2_with fail;go_ret;exact⟨aC (by simp[aY,hh9,hh8,hh7,hh6,he5]),gout _⟩
     ·have he5:e=0:=by simpa using hh5
      rcases aL (f != 0)with hh4 | hh4
      ·have he4:¬f=0:=by simpa using hh4
       go_wp2_with fail;go_ret;exact⟨aC (by simp[aY,hh9,hh8,hh7,hh6,he5,he4]),gout _⟩
      ·have he4:f=0:=by simpa using hh4
       rcases cq hh.length with hh3 | hh3
       ·have he3:hh.isEmpty=af:=by rw[cw hh3];rfl
        have hn3:¬0<hh.length:=by omega
        have hm3:decide (0<hh.length)=ac:=decide_eq_false hn3;clear hh3
        rcases cq g.length with hh2 | hh2
        ·have he2:g.isEmpty=af:=by rw[cw hh2];rfl
         have hn2:¬0<g.length:=by omega
         have hm2:decide (0<g.length)=ac:=decide_eq_false hn2;clear hh2;go_wp2_with fail
         rcases aL (bdB g)with hh1 | hh1
         ·refine(aD (g:=gg) (cM (IH.out _ (bc rfl)) hh1 _ _ gg.W (Kd.aF H.out.2.2.1 (gout gg)) L.out.2.2.1)).mono ?_;rintro _ _ ⟨rfl,gg,rfl⟩;go_wp2_with fail
          rcases aL (bdB hh)with hh0 | hh0
          ·refine(aD (g:=gg) (cM (IH.out _ (Or.inr rfl)) hh0 _ _ gg.W (Kd.aF H.out.2.2.2 (gout gg)) L.out.2.2.2)).mono ?_;rintro _ _ ⟨rfl,gg,rfl⟩;go_wp2_with fail;go_ret;exact⟨aC (by simp[aY,hh9,hh8,hh7,hh6,he5,he4,he3,he2,hh1,hh0]),gout _⟩
          ·refine(aD (g:=gg) (cM (IH.out _ (Or.inr rfl)) hh0 _ _ gg.W (Kd.aF H.out.2.2.2 (gout gg)) L.out.2.2.2)).mono ?_;rintro _ _ ⟨rfl,gg,rfl⟩;go_wp2_with fail;go_ret;exact⟨aC (by simp[aY,hh9,hh8,hh7,hh6,he5,he4,he3,he2,hh1,hh0]),gout _⟩
         ·refine(aD (g:=gg) (cM (IH.out _ (bc rfl)) hh1 _ _ gg.W (Kd.aF H.out.2.2.1 (gout gg)) L.out.2.2.1)).mono ?_;rintro _ _ ⟨rfl,gg,rfl⟩;go_wp2_with fail;go_ret;exact⟨aC (by simp[aY,hh9,hh8,hh7,hh6,he5,he4,he3,he2,hh1]),gout _⟩
        ·have he2:g.isEmpty=ac:=by rw[dz];rintro rfl;exact absurd hh2 (by simp)
         go_wp2_with fail;go_ret;exact⟨aC (by simp[aY,hh9,hh8,hh7,hh6,he5,he4,he3,he2]),gout _⟩
       ·have he3:hh.isEmpty=ac:=by rw[dz];rintro rfl;exact absurd hh3 (by simp)
        go_wp2_with fail;go_ret;exact⟨aC (by simp[aY,hh9,hh8,hh7,hh6,he5,he4,he3]),gout _⟩
    ·refine(aD (g:=gg) (eM hh6 _ _ gg.W (Kd.aF H.out.2.1 (gout gg)) L.out.2.1)).mono ?_;rintro _ _ ⟨rfl,gg,rfl⟩;go_wp2_with fail;go_ret;exact⟨aC (by simp[aY,hh9,hh8,hh7,hh6]),gout _⟩
   ·refine(aD (g:=gg) (eM hh7 _ _ gg.W (Kd.aF H.out.1 (gout gg)) L.out.1)).mono ?_;rintro _ _ ⟨rfl,gg,rfl⟩;go_wp2_with fail;go_ret;exact⟨aC (by simp[aY,hh9,hh8,hh7]),gout _⟩
  ·refine(aD (g:=gg) (dV hh8 gg.W)).mono ?_;rintro _ _ ⟨rfl,gg,rfl⟩;go_wp2_with fail;go_ret;exact⟨aC (by simp[aY,hh9,hh8]),gout _⟩
end
theorem kinds (a:Int):a<1\/(¬a<1/\a > 5)\/a=1\/a=2\/a=3\/a=4\/a=5:=by omega
theorem stmtForm_walk (x:S119)(ih:∀l,l=x.f6\/l=x.f7->kU 121 l):StmtC 168 x:=by
 intro A5 c5 A9 c9 A12 c12 A13 c13 w l5 g5 l9 g9 l12 g12 l13 g13;have L:=aa (aj l5 (aj l9 (aj l12 l13)));have H:=aa (aj g5 (aj g9 (aj g12 g13)));have IH:=aa ih;rw[pO];obtain⟨a,b,cc,d,e,f,g,hh⟩:=x;simp only at*
 rcases kinds a with h | ⟨h,h'⟩ | rfl | rfl | rfl | rfl | rfl
 ·exact stmtForm_klt a h b cc d e f g hh w L H IH
 ·exact stmtForm_kgt a h h' b cc d e f g hh w L H IH
 ·exact stmtForm_k1 b cc d e f g hh w L H IH
 ·exact stmtForm_k2 b cc d e f g hh w L H IH
 ·exact stmtForm_k3 b cc d e f g hh w L H IH
 ·exact stmtForm_k4 b cc d e f g hh w L H IH
 ·exact stmtForm_k5 b cc d e f g hh w L H IH
theorem qC (x:S119)(ih:∀l,l=x.f6\/l=x.f7->kU 126 l):StmtC 172 x:=by
 intro A5 c5 A9 c9 A12 c12 A13 c13 w l5 g5 l9 g9 l12 g12 l13 g13;have L:=aa (aj l5 (aj l9 (aj l12 l13)));have H:=aa (aj g5 (aj g9 (aj g12 g13)));have IH:=aa ih;rw[pO];obtain⟨a,b,cc,d,e,f,g,hh⟩:=x;simp only at*
 rcases kinds a with h | ⟨h,h'⟩ | rfl | rfl | rfl | rfl | rfl
 ·exact sR a h b cc d e f g hh w L H IH
 ·exact rM a h h' b cc d e f g hh w L H IH
 ·exact refStmtForm_k1 b cc d e f g hh w L H IH
 ·exact refStmtForm_k2 b cc d e f g hh w L H IH
 ·exact refStmtForm_k3 b cc d e f g hh w L H IH
 ·exact refStmtForm_k4 b cc d e f g hh w L H IH
 ·exact refStmtForm_k5 b cc d e f g hh w L H IH
theorem st_size {x y:S119}{l:List S119}{n:Nat}(hl:l=x.f6\/l=x.f7)(hy:y∈l)(h:cz x<=n+1):cz y<=n:=by
 have:=gq hy;obtain⟨a,b,cc,d,e,f,g,hh⟩:=x
 simp at h
 simp only at hl
 rcases hl with rfl | rfl <;> omega
theorem stmtForm_all:∀(n:Nat) (x:S119),cz x<=n->StmtC 168 x:=by
 intro n
 induction n with
 |zero=>intro x h;obtain⟨a,b,c,l⟩:=x;simp at h
 |succ n ih=>
  intro x h;refine stmtForm_walk x fun l hl A c w' hc hlc=> ?_;rw[lT];exact n9 l A c w' hc hlc fun y hy=>ih y (st_size hl hy h)
theorem r5:∀(n:Nat) (x:S119),cz x<=n->StmtC 172 x:=by
 intro n
 induction n with
 |zero=>intro x h;obtain⟨a,b,c,l⟩:=x;simp at h
 |succ n ih=>
  intro x h;refine qC x fun l hl A c w' hc hlc=> ?_;rw[lT];exact mJ l A c w' hc hlc fun y hy=>ih y (st_size hl hy h)
theorem bodyForm_calls (l:List S119):kU 121 l:=fun A c w' hc hl=>by
 rw[lT];exact n9 l A c w' hc hl fun y _=>stmtForm_all _ y (aq _)
theorem rY (l:List S119):kU 126 l:=fun A c w' hc hl=>by
 rw[lT];exact mJ l A c w' hc hl fun y _=>r5 _ y (aq _)
section
attribute [local go_sem] G.cell
def dcB (x:S70):Bool:=decide (1<=x.f0)&&decide (x.f0<=5)&&cQ x.f1&&decide (0<=x.f2)&&(if x.f0=3 then decide (0<x.f3.length)&&decide (0<x.f2)else x.f3.isEmpty)
theorem kinds5 (a:Int):a<1\/(¬a<1/\a > 5)\/a=1\/a=2\/a=3\/a=4\/a=5:=by omega
theorem declForm_klt (a:Int)(h1:a<1)(b:ByteArray)(s:Int)(l:List Int){A:Option Addr}{c:Nat}(w:World):
 Calls au 120 #[.agg #[.int .i64 a,.string b,.int .i64 s,.slice A l.length c]] w fun e' w'=>e'=.returned (.bool (dcB ⟨a,b,s,l⟩))/\Below w.heap.size w w':=by
 have gout:=@gA w
 have h0:dcB ⟨a,b,s,l⟩=ac:=by simp[dcB];omega
 rw[h0];clear h0;go_enter Tryz.func120,Tryz.ntmps120
 go_upto_region 1 with (fail)
 refine bE ?_;intro gg;go_wp2_with fail;go_ret;exact⟨aC (by simp),gout _⟩
theorem declForm_kgt (a:Int)(h1:¬a<1)(h2:a > 5)(b:ByteArray)(s:Int)(l:List Int){A:Option Addr}{c:Nat}(w:World):
 Calls au 120 #[.agg #[.int .i64 a,.string b,.int .i64 s,.slice A l.length c]] w fun e' w'=>e'=.returned (.bool (dcB ⟨a,b,s,l⟩))/\Below w.heap.size w w':=by
 have gout:=@gA w
 have h0:dcB ⟨a,b,s,l⟩=ac:=by simp[dcB];omega
 rw[h0];clear h0;go_enter Tryz.func120,Tryz.ntmps120
 go_upto_region 1 with (fail)
 refine bE ?_;intro gg;go_wp2_with fail;go_ret;exact⟨aC (by simp),gout _⟩
theorem declForm_k1 (b:ByteArray)(s:Int)(l:List Int){A:Option Addr}{c:Nat}(w:World):
 Calls au 120 #[.agg #[.int .i64 1,.string b,.int .i64 s,.slice A l.length c]] w fun e' w'=>e'=.returned (.bool (dcB ⟨1,b,s,l⟩))/\Below w.heap.size w w':=by
 have gout:=@gA w;go_enter Tryz.func120,Tryz.ntmps120
 go_upto_region 1 with (fail)
 refine bE ?_;intro gg;go_wp2_with fail
 rcases aL (cQ b)with h1 | h1
 all_goals
  refine(aD (g:=gg) (fZ h1 gg.W)).mono ?_;rintro _ _ ⟨rfl,gg,rfl⟩
 ·rcases dh s 0 with h2 | h2
  ·have h3:¬0<=s:=by omega
   go_wp2_with fail;go_ret;exact⟨aC (by simp[dcB,h1,h3] <;> (intros;omega)),gout _⟩
  ·have h3:¬s<0:=by omega
   rcases l with _ | ⟨y,r⟩
   all_goals
    (try have h6:((r.length:Int)+1==0)=ac:=by simp;omega)
    go_wp2_with fail;go_ret;exact⟨aC (by simp[dcB,h1,h2];try omega),gout _⟩
 ·go_wp2_with fail;go_ret;exact⟨aC (by simp[dcB,h1]),gout _⟩
theorem declForm_k2 (b:ByteArray)(s:Int)(l:List Int){A:Option Addr}{c:Nat}(w:World):
 Calls au 120 #[.agg #[.int .i64 2,.string b,.int .i64 s,.slice A l.length c]] w fun e' w'=>e'=.returned (.bool (dcB ⟨2,b,s,l⟩))/\Below w.heap.size w w':=by
 have gout:=@gA w;go_enter Tryz.func120,Tryz.ntmps120
 go_upto_region 1 with (fail)
 refine bE ?_;intro gg;go_wp2_with fail
 rcases aL (cQ b)with h1 | h1
 all_goals
  refine(aD (g:=gg) (fZ h1 gg.W)).mono ?_;rintro _ _ ⟨rfl,gg,rfl⟩
 ·rcases dh s 0 with h2 | h2
  ·have h3:¬0<=s:=by omega
   go_wp2_with fail;go_ret;exact⟨aC (by simp[dcB,h1,h3] <;> (intros;omega)),gout _⟩
  ·have h3:¬s<0:=by omega
   rcases l with _ | ⟨y,r⟩
   all_goals
    (try have h6:((r.length:Int)+1==0)=ac:=by simp;omega)
    go_wp2_with fail;go_ret;exact⟨aC (by simp[dcB,h1,h2];try omega),gout _⟩
 ·go_wp2_with fail;go_ret;exact⟨aC (by simp[dcB,h1]),gout _⟩
theorem declForm_k3 (b:ByteArray)(s:Int)(l:List Int){A:Option Addr}{c:Nat}(w:World):
 Calls au 120 #[.agg #[.int .i64 3,.string b,.int .i64 s,.slice A l.length c]] w fun e' w'=>e'=.returned (.bool (dcB ⟨3,b,s,l⟩))/\Below w.heap.size w w':=by
 have gout:=@gA w;go_enter Tryz.func120,Tryz.ntmps120
 go_upto_region 1 with (fail)
 refine bE ?_;intro gg;go_wp2_with fail
 rcases aL (cQ b)with h1 | h1
 all_goals
  refine(aD (g:=gg) (fZ h1 gg.W)).mono ?_;rintro _ _ ⟨rfl,gg,rfl⟩
 ·rcases dh s 0 with h2 | h2
  ·have h3:¬0<=s:=by omega
   go_wp2_with fail;go_ret;exact⟨aC (by simp[dcB,h1,h3] <;> (intros;omega)),gout _⟩
  ·have h3:¬s<0:=by omega
   rcases dh 0 s with h4 | h4
   ·rcases l with _ | ⟨y,r⟩
    all_goals
     go_wp2_with fail;go_ret;exact⟨aC (by simp[dcB,h1,h2,h4]),gout _⟩
   ·have h5:¬0<s:=by omega
    rcases l with _ | ⟨y,r⟩
    all_goals
     go_wp2_with fail;go_ret;exact⟨aC (by simp[dcB,h1,h2,h5]),gout _⟩
 ·go_wp2_with fail;go_ret;exact⟨aC (by simp[dcB,h1]),gout _⟩
theorem declForm_k4 (b:ByteArray)(s:Int)(l:List Int){A:Option Addr}{c:Nat}(w:World):
 Calls au 120 #[.agg #[.int .i64 4,.string b,.int .i64 s,.slice A l.length c]] w fun e' w'=>e'=.returned (.bool (dcB ⟨4,b,s,l⟩))/\Below w.heap.size w w':=by
 have gout:=@gA w;go_enter Tryz.func120,Tryz.ntmps120
 go_upto_region 1 with (fail)
 refine bE ?_;intro gg;go_wp2_with fail
 rcases aL (cQ b)with h1 | h1
 all_goals
  refine(aD (g:=gg) (fZ h1 gg.W)).mono ?_;rintro _ _ ⟨rfl,gg,rfl⟩
 ·rcases dh s 0 with h2 | h2
  ·have h3:¬0<=s:=by omega
   go_wp2_with fail;go_ret;exact⟨aC (by simp[dcB,h1,h3] <;> (intros;omega)),gout _⟩
  ·have h3:¬s<0:=by omega
   rcases l with _ | ⟨y,r⟩
   all_goals
    (try have h6:((r.length:Int)+1==0)=ac:=by simp;omega)
    go_wp2_with fail;go_ret;exact⟨aC (by simp[dcB,h1,h2];try omega),gout _⟩
 ·go_wp2_with fail;go_ret;exact⟨aC (by simp[dcB,h1]),gout _⟩
theorem declForm_k5 (b:ByteArray)(s:Int)(l:List Int){A:Option Addr}{c:Nat}(w:World):
 Calls au 120 #[.agg #[.int .i64 5,.string b,.int .i64 s,.slice A l.length c]] w fun e' w'=>e'=.returned (.bool (dcB ⟨5,b,s,l⟩))/\Below w.heap.size w w':=by
 have gout:=@gA w;go_enter Tryz.func120,Tryz.ntmps120
 go_upto_region 1 with (fail)
 refine bE ?_;intro gg;go_wp2_with fail
 rcases aL (cQ b)with h1 | h1
 all_goals
  refine(aD (g:=gg) (fZ h1 gg.W)).mono ?_;rintro _ _ ⟨rfl,gg,rfl⟩
 ·rcases dh s 0 with h2 | h2
  ·have h3:¬0<=s:=by omega
   go_wp2_with fail;go_ret;exact⟨aC (by simp[dcB,h1,h3] <;> (intros;omega)),gout _⟩
  ·have h3:¬s<0:=by omega
   rcases l with _ | ⟨y,r⟩
   all_goals
    (try have h6:((r.length:Int)+1==0)=ac:=by simp;omega)
    go_wp2_with fail;go_ret;exact⟨aC (by simp[dcB,h1,h2];try omega),gout _⟩
 ·go_wp2_with fail;go_ret;exact⟨aC (by simp[dcB,h1]),gout _⟩
theorem declForm_calls (x:S70)(A:Option Addr)(c:Nat)(w:World):Calls au 120 #[.agg #[.int .i64 x.f0,.string x.f1,.int .i64 x.f2,.slice A x.f3.length c]] w fun e' w'=>e'=.returned (.bool (dcB x))/\Below w.heap.size w w':=by
 obtain⟨a,b,s,l⟩:=x
 rcases kinds5 a with h | ⟨h,h'⟩ | rfl | rfl | rfl | rfl | rfl
 ·exact declForm_klt a h b s l w
 ·exact declForm_kgt a h h' b s l w
 ·exact declForm_k1 b s l w
 ·exact declForm_k2 b s l w
 ·exact declForm_k3 b s l w
 ·exact declForm_k4 b s l w
 ·exact declForm_k5 b s l w
theorem sA (a:Int)(h1:a<1)(b:ByteArray)(s:Int)(l:List Int){A:Option Addr}{c:Nat}(w:World):
 Calls au 125 #[.agg #[.int .i64 a,.string b,.int .i64 s,.slice A l.length c]] w fun e' w'=>e'=.returned (.bool (dcB ⟨a,b,s,l⟩))/\Below w.heap.size w w':=by
 have gout:=@gA w
 have h0:dcB ⟨a,b,s,l⟩=ac:=by simp[dcB];omega
 rw[h0];clear h0;go_enter Tryz.func125,Tryz.ntmps125
 go_upto_region 1 with (fail)
 refine bE ?_;intro gg;go_wp2_with fail;go_ret;exact⟨aC (by simp),gout _⟩
theorem tF (a:Int)(h1:¬a<1)(h2:a > 5)(b:ByteArray)(s:Int)(l:List Int){A:Option Addr}{c:Nat}(w:World):
 Calls au 125 #[.agg #[.int .i64 a,.string b,.int .i64 s,.slice A l.length c]] w fun e' w'=>e'=.returned (.bool (dcB ⟨a,b,s,l⟩))/\Below w.heap.size w w':=by
 have gout:=@gA w
 have h0:dcB ⟨a,b,s,l⟩=ac:=by simp[dcB];omega
 rw[h0];clear h0;go_enter Tryz.func125,Tryz.ntmps125
 go_upto_region 1 with (fail)
 refine bE ?_;intro gg;go_wp2_with fail;go_ret;exact⟨aC (by simp),gout _⟩
theorem refDeclForm_k1 (b:ByteArray)(s:Int)(l:List Int){A:Option Addr}{c:Nat}(w:World):
 Calls au 125 #[.agg #[.int .i64 1,.string b,.int .i64 s,.slice A l.length c]] w fun e' w'=>e'=.returned (.bool (dcB ⟨1,b,s,l⟩))/\Below w.heap.size w w':=by
 have gout:=@gA w;go_enter Tryz.func125,Tryz.ntmps125
 go_upto_region 1 with (fail)
 refine bE ?_;intro gg;go_wp2_with fail
 rcases aL (cQ b)with h1 | h1
 all_goals
  refine(aD (g:=gg) (dV h1 gg.W)).mono ?_;rintro _ _ ⟨rfl,gg,rfl⟩
 ·rcases dh s 0 with h2 | h2
  ·have h3:¬0<=s:=by omega
   go_wp2_with fail;go_ret;exact⟨aC (by simp[dcB,h1,h3] <;> (intros;omega)),gout _⟩
  ·have h3:¬s<0:=by omega
   rcases l with _ | ⟨y,r⟩
   all_goals
    (try have h6:((r.length:Int)+1==0)=ac:=by simp;omega)
    go_wp2_with fail;go_ret;exact⟨aC (by simp[dcB,h1,h2];try omega),gout _⟩
 ·go_wp2_with fail;go_ret;exact⟨aC (by simp[dcB,h1]),gout _⟩
theorem refDeclForm_k2 (b:ByteArray)(s:Int)(l:List Int){A:Option Addr}{c:Nat}(w:World):
 Calls au 125 #[.agg #[.int .i64 2,.string b,.int .i64 s,.slice A l.length c]] w fun e' w'=>e'=.returned (.bool (dcB ⟨2,b,s,l⟩))/\Below w.heap.size w w':=by
 have gout:=@gA w;go_enter Tryz.func125,Tryz.ntmps125
 go_upto_region 1 with (fail)
 refine bE ?_;intro gg;go_wp2_with fail
 rcases aL (cQ b)with h1 | h1
 all_goals
  refine(aD (g:=gg) (dV h1 gg.W)).mono ?_;rintro _ _ ⟨rfl,gg,rfl⟩
 ·rcases dh s 0 with h2 | h2
  ·have h3:¬0<=s:=by omega
   go_wp2_with fail;go_ret;exact⟨aC (by simp[dcB,h1,h3] <;> (intros;omega)),gout _⟩
  ·have h3:¬s<0:=by omega
   rcases l with _ | ⟨y,r⟩
   all_goals
    (try have h6:((r.length:Int)+1==0)=ac:=by simp;omega)
    go_wp2_with fail;go_ret;exact⟨aC (by simp[dcB,h1,h2];try omega),gout _⟩
 ·go_wp2_with fail;go_ret;exact⟨aC (by simp[dcB,h1]),gout _⟩
theorem refDeclForm_k3 (b:ByteArray)(s:Int)(l:List Int){A:Option Addr}{c:Nat}(w:World):
 Calls au 125 #[.agg #[.int .i64 3,.string b,.int .i64 s,.slice A l.length c]] w fun e' w'=>e'=.returned (.bool (dcB ⟨3,b,s,l⟩))/\Below w.heap.size w w':=by
 have gout:=@gA w;go_enter Tryz.func125,Tryz.ntmps125
 go_upto_region 1 with (fail)
 refine bE ?_;intro gg;go_wp2_with fail
 rcases aL (cQ b)with h1 | h1
 all_goals
  refine(aD (g:=gg) (dV h1 gg.W)).mono ?_;rintro _ _ ⟨rfl,gg,rfl⟩
 ·rcases dh s 0 with h2 | h2
  ·have h3:¬0<=s:=by omega
   go_wp2_with fail;go_ret;exact⟨aC (by simp[dcB,h1,h3] <;> (intros;omega)),gout _⟩
  ·have h3:¬s<0:=by omega
   rcases dh 0 s with h4 | h4
   ·rcases l with _ | ⟨y,r⟩
    all_goals
     go_wp2_with fail;go_ret;exact⟨aC (by simp[dcB,h1,h2,h4]),gout _⟩
   ·have h5:¬0<s:=by omega
    rcases l with _ | ⟨y,r⟩
    all_goals
     go_wp2_with fail;go_ret;exact⟨aC (by simp[dcB,h1,h2,h5]),gout _⟩
 ·go_wp2_with fail;go_ret;exact⟨aC (by simp[dcB,h1]),gout _⟩
theorem refDeclForm_k4 (b:ByteArray)(s:Int)(l:List Int){A:Option Addr}{c:Nat}(w:World):
 Calls au 125 #[.agg #[.int .i64 4,.string b,.int .i64 s,.slice A l.length c]] w fun e' w'=>e'=.returned (.bool (dcB ⟨4,b,s,l⟩))/\Below w.heap.size w w':=by
 have gout:=@gA w;go_enter Tryz.func125,Tryz.ntmps125
 go_upto_region 1 with (fail)
 refine bE ?_;intro gg;go_wp2_with fail
 rcases aL (cQ b)with h1 | h1
 all_goals
  refine(aD (g:=gg) (dV h1 gg.W)).mono ?_;rintro _ _ ⟨rfl,gg,rfl⟩
 ·rcases dh s 0 with h2 | h2
  ·have h3:¬0<=s:=by omega
   go_wp2_with fail;go_ret;exact⟨aC (by simp[dcB,h1,h3] <;> (intros;omega)),gout _⟩
  ·have h3:¬s<0:=by omega
   rcases l with _ | ⟨y,r⟩
   all_goals
    (try have h6:((r.length:Int)+1==0)=ac:=by simp;omega)
    go_wp2_with fail;go_ret;exact⟨aC (by simp[dcB,h1,h2];try omega),gout _⟩
 ·go_wp2_with fail;go_ret;exact⟨aC (by simp[dcB,h1]),gout _⟩
theorem refDeclForm_k5 (b:ByteArray)(s:Int)(l:List Int){A:Option Addr}{c:Nat}(w:World):
 Calls au 125 #[.agg #[.int .i64 5,.string b,.int .i64 s,.slice A l.length c]] w fun e' w'=>e'=.returned (.bool (dcB ⟨5,b,s,l⟩))/\Below w.heap.size w w':=by
 have gout:=@gA w;go_enter Tryz.func125,Tryz.ntmps125
 go_upto_region 1 with (fail)
 refine bE ?_;intro gg;go_wp2_with fail
 rcases aL (cQ b)with h1 | h1
 all_goals
  refine(aD (g:=gg) (dV h1 gg.W)).mono ?_;rintro _ _ ⟨rfl,gg,rfl⟩
 ·rcases dh s 0 with h2 | h2
  ·have h3:¬0<=s:=by omega
   go_wp2_with fail;go_ret;exact⟨aC (by simp[dcB,h1,h3] <;> (intros;omega)),gout _⟩
  ·have h3:¬s<0:=by omega
   rcases l with _ | ⟨y,r⟩
   all_goals
    (try have h6:((r.length:Int)+1==0)=ac:=by simp;omega)
    go_wp2_with fail;go_ret;exact⟨aC (by simp[dcB,h1,h2];try omega),gout _⟩
 ·go_wp2_with fail;go_ret;exact⟨aC (by simp[dcB,h1]),gout _⟩
theorem oH (x:S70)(A:Option Addr)(c:Nat)(w:World):Calls au 125 #[.agg #[.int .i64 x.f0,.string x.f1,.int .i64 x.f2,.slice A x.f3.length c]] w fun e' w'=>e'=.returned (.bool (dcB x))/\Below w.heap.size w w':=by
 obtain⟨a,b,s,l⟩:=x
 rcases kinds5 a with h | ⟨h,h'⟩ | rfl | rfl | rfl | rfl | rfl
 ·exact sA a h b s l w
 ·exact tF a h h' b s l w
 ·exact refDeclForm_k1 b s l w
 ·exact refDeclForm_k2 b s l w
 ·exact refDeclForm_k3 b s l w
 ·exact refDeclForm_k4 b s l w
 ·exact refDeclForm_k5 b s l w
end
section
attribute [local go_sem] G.cell
def dR (nm:ByteArray)(wd ln:Int)(ds:List S70)(bd:List S119):Bool:=cQ nm&&decide (0<=wd)&&decide (0<=ln)&&(ds.all dcB&&bdB bd)
section
variable {nm:ByteArray}{wd ln:Int}{ds:List S70}{bd:List S119}
theorem form_no1 (h:cQ nm=ac):dR nm wd ln ds bd=ac:=by unfold dR;rw[h];rfl
theorem form_no2 (h:wd<0):dR nm wd ln ds bd=ac:=by unfold dR;rw[decide_eq_false (show ¬0<=wd by omega)];simp
theorem form_no3 (h:ln<0):dR nm wd ln ds bd=ac:=by unfold dR;rw[decide_eq_false (show ¬0<=ln by omega)];simp
theorem form_yes (h1:cQ nm=af)(h2:0<=wd)(h3:0<=ln):dR nm wd ln ds bd=(ds.all dcB&&bdB bd):=by unfold dR;rw[h1,decide_eq_true h2,decide_eq_true h3];simp
end
theorem nV {l:List S70}{y:S70}(h:y∈l)(hn:dcB y=ac):l.all dcB=ac:=by
 rw[List.all_eq_false];exact⟨y,h,by rw[hn];decide⟩
theorem eJ {l:List S70}{k:Nat}(hlt:k<l.length):aI l (k:Int)∈l:=by
 unfold aI;rw[ax,aw,az hlt];exact gn _
theorem rC {l:List S70}(h:∀j,j<l.length->dcB (aI l (j:Int))=af):l.all dcB=af:=by
 rw[fw];intro y hy;obtain⟨j,hj,rfl⟩:=gr hy;have:=h j hj;unfold aI at this
 rwa [ax,aw,az hj]at this
theorem Form_walk (nm:ByteArray)(wd ln:Int)(ds:List S70)(bd:List S119)(A3:Option Addr)(c3:Nat)(A4:Option Addr)(c4:Nat)(w:World)(hd:k70.C w A3 ds.length ds)(hld:ds.length<=c3)(hb:dN.C w A4 bd.length bd)(hlb:bd.length<=c4):
 Calls au 75 #[.agg #[.string nm,.int .i64 wd,.int .i64 ln,.slice A3 ds.length c3,.slice A4 bd.length c4]] w fun e w'=>e=.returned (.bool (dR nm wd ln ds bd))/\Below w.heap.size w w':=by
 have gout:=@gA w;have goutA:∀{o:Obj} (g:G (w.alloc o)) (o':Obj),Below w.heap.size w (g.W.alloc o'):=fun g o'=>(gout g).alloc (gout g).size o';have hlm:=hd.2.1;have HD:=aa hd;have HB:=aa hb;have HLB:=aa hlb;clear hd hb hlb;go_enter Tryz.func75,Tryz.ntmps75
 go_upto_region 1 with (fail)
 refine bE ?_;intro gg;go_wp2_with fail
 rcases aL (cQ nm)with h1 | h1
 all_goals
  refine(aD (g:=gg) (fZ h1 gg.W)).mono ?_;rintro _ _ ⟨rfl,gg,rfl⟩
 ·rcases dh wd 0 with h2 | h2
  ·go_wp2_with fail;go_ret;exact⟨aC (form_no2 h2).symm,gout _⟩
  rcases dh ln 0 with h3 | h3
  ·have h2':¬wd<0:=by omega
   go_wp2_with fail;go_ret;exact⟨aC (form_no3 h3).symm,gout _⟩
  ·have h2':¬wd<0:=by omega
   have h3':¬ln<0:=by omega
   have FY:=aa (form_yes (ds:=ds) (bd:=bd) h1 h2 h3);clear h2 h3
   go_wp2
   clear h1 h2' h3'
   go_loopw [22] (fun i W=>∃(k:Nat) (g:G (gw gg)),i=.int .i64 k/\W=g.W/\k<=ds.length/\Aside0 (∀j,j<k->dcB (aI ds (j:Int))=af)) (fun i _=>ds.length - (intOf i).toNat)
   case atStart=>exact⟨0,gg,rfl,rfl,bk _,⟨fun j hj=>absurd hj (da _)⟩⟩
   case round=>
    obtain⟨k,g,rfl,rfl,hk,HK⟩:=hrel
    by_cases hlt:k<ds.length
    ·obtain⟨ad,A3',c3',e1,q0,q1,q2,q3,l3,g3⟩:=eD HD.out (k:Int) (bo _) (by omega);cases e1;rw[ax]at q0 q1 q2 q3;replace q0:=((gout g).cell (av w _ q0)).trans q0;replace q1:=((gout g).cell (av w _ q1)).trans q1;replace q2:=((gout g).cell (av w _ q2)).trans q2;replace q3:=((gout g).cell (av w _ q3)).trans q3
     have hi1:(k:Int)<(ds.length:Int):=by omega
     have MEM:=aa (eJ hlt)
     rcases aL (dcB (aI ds (k:Int)))with hy | hy
     all_goals
      have HY:=aa hy;clear hy;go_wp2_with fail;refine(cU (g:=g) (declForm_calls (aI ds (k:Int)) A3' c3' _)).mono ?_;rw[HY.out];rintro _ _ ⟨rfl,gg,rfl⟩
      go_wp2
     ·refine⟨⟨k+1,gg,by go_num,rfl,by omega,⟨fun j hj=> ?_⟩⟩,by simp[intOf];omega⟩
      by_cases hj2:j=k
      ·rw[hj2];exact HY.out
      ·exact HK.out j (by omega)
     ·go_ret;exact⟨aC (by rw[FY.out,nV MEM.out HY.out];rfl),gout _⟩
    ·have hall:=aa (rC (fun j hj=>HK.out j (by omega)));clear HK;go_wp2_with fail;refine(aD (g:=g) (bodyForm_calls bd A4 c4 _ (Kd.aF HB.out (gout g)) HLB.out)).mono ?_;rintro _ _ ⟨rfl,gg,rfl⟩
     go_wp2
     go_ret;exact⟨aC (by rw[FY.out,hall.out];rfl),gout _⟩
 ·go_wp2_with fail;go_ret;exact⟨aC (form_no1 h1).symm,gout _⟩
theorem refForm_walk (nm:ByteArray)(wd ln:Int)(ds:List S70)(bd:List S119)(A3:Option Addr)(c3:Nat)(A4:Option Addr)(c4:Nat)(w:World)(hd:k70.C w A3 ds.length ds)(hld:ds.length<=c3)(hb:dN.C w A4 bd.length bd)(hlb:bd.length<=c4):
 Calls au 78 #[.agg #[.string nm,.int .i64 wd,.int .i64 ln,.slice A3 ds.length c3,.slice A4 bd.length c4]] w fun e w'=>e=.returned (.bool (dR nm wd ln ds bd))/\Below w.heap.size w w':=by
 have gout:=@gA w;have goutA:∀{o:Obj} (g:G (w.alloc o)) (o':Obj),Below w.heap.size w (g.W.alloc o'):=fun g o'=>(gout g).alloc (gout g).size o';have hlm:=hd.2.1;have HD:=aa hd;have HB:=aa hb;have HLB:=aa hlb;clear hd hb hlb;go_enter Tryz.func78,Tryz.ntmps78
 go_upto_region 1 with (fail)
 refine bE ?_;intro gg;go_wp2_with fail
 rcases aL (cQ nm)with h1 | h1
 all_goals
  refine(aD (g:=gg) (dV h1 gg.W)).mono ?_;rintro _ _ ⟨rfl,gg,rfl⟩
 ·rcases dh wd 0 with h2 | h2
  ·go_wp2_with fail;go_ret;exact⟨aC (form_no2 h2).symm,gout _⟩
  rcases dh ln 0 with h3 | h3
  ·have h2':¬wd<0:=by omega
   go_wp2_with fail;go_ret;exact⟨aC (form_no3 h3).symm,gout _⟩
  ·have h2':¬wd<0:=by omega
   have h3':¬ln<0:=by omega
   have FY:=aa (form_yes (ds:=ds) (bd:=bd) h1 h2 h3);clear h2 h3
   go_wp2
   clear h1 h2' h3'
   go_loopw [3] (fun i W=>∃(k:Nat) (g:G (gw gg)),i=.int .i64 k/\W=g.W/\k<=ds.length/\Aside0 (∀j,j<k->dcB (aI ds (j:Int))=af)) (fun i _=>ds.length - (intOf i).toNat)
   case atStart=>exact⟨0,gg,rfl,rfl,bk _,⟨fun j hj=>absurd hj (da _)⟩⟩
   case round=>
    obtain⟨k,g,rfl,rfl,hk,HK⟩:=hrel
    by_cases hlt:k<ds.length
    ·obtain⟨ad,A3',c3',e1,q0,q1,q2,q3,l3,g3⟩:=eD HD.out (k:Int) (bo _) (by omega);cases e1;rw[ax]at q0 q1 q2 q3;replace q0:=((gout g).cell (av w _ q0)).trans q0;replace q1:=((gout g).cell (av w _ q1)).trans q1;replace q2:=((gout g).cell (av w _ q2)).trans q2;replace q3:=((gout g).cell (av w _ q3)).trans q3
     have hi1:(k:Int)<(ds.length:Int):=by omega
     have MEM:=aa (eJ hlt)
     rcases aL (dcB (aI ds (k:Int)))with hy | hy
     all_goals
      have HY:=aa hy;clear hy;go_wp2_with fail;refine(aD (g:=g) (oH (aI ds (k:Int)) A3' c3' _)).mono ?_;rw[HY.out];rintro _ _ ⟨rfl,gg,rfl⟩
      go_wp2
     ·refine⟨⟨k+1,gg,by go_num,rfl,by omega,⟨fun j hj=> ?_⟩⟩,by simp[intOf];omega⟩
      by_cases hj2:j=k
      ·rw[hj2];exact HY.out
      ·exact HK.out j (by omega)
     ·go_ret;exact⟨aC (by rw[FY.out,nV MEM.out HY.out];rfl),gout _⟩
    ·have hall:=aa (rC (fun j hj=>HK.out j (by omega)));clear HK;go_wp2_with fail;refine(aD (g:=g) (rY bd A4 c4 _ (Kd.aF HB.out (gout g)) HLB.out)).mono ?_;rintro _ _ ⟨rfl,gg,rfl⟩
     go_wp2
     go_ret;exact⟨aC (by rw[FY.out,hall.out];rfl),gout _⟩
 ·go_wp2_with fail;go_ret;exact⟨aC (form_no1 h1).symm,gout _⟩
end
section
attribute [local go_sem] G.cell
mutual
def gH:S116->Nat
 | ⟨_,_,_,l⟩=>jG l+1
def jG:List S116->Nat
 | []=>0
 |x::r=>max (gH x) (jG r)
end
theorem qJ (x:S116):gH x=jG x.f3+1:=by
 obtain⟨a,b,s,l⟩:=x;rw[gH]
theorem rV (l:List S116)(x:S116):jG (l++[x])=max (jG l) (gH x):=by
 induction l with
 |nil=>simp[jG]
 |cons y r ih=>rw[gp,jG,ih,jG];omega
theorem deepL_mem {l:List S116}{x:S116}(h:x∈l):gH x<=jG l:=by
 induction l with
 |nil=>cases h
 |cons y r ih=>
  rw[jG]
  rcases iv.1 h with rfl | h
  ·omega
  ·have:=ih h;omega
theorem dS {l:List S116}{k:Nat}(hlt:k<l.length):l.take (k+1)=l.take k++[bR l (k:Int)]:=by
 unfold bR;rw[ax,aw,az hlt,List.take_add_one,az hlt];rfl
theorem gS {l:List S116}{k:Nat}(hlt:k<l.length):bR l (k:Int)∈l:=by
 unfold bR;rw[ax,aw,az hlt];exact gn _
theorem eV {l:List S116}{x:S116}{n:Nat}(hx:x.f3=l){y:S116}(hy:y∈l)(h:cz x<=n+1):cz y<=n:=by
 have:=gq hy;obtain⟨a,b,c,l⟩:=x
 simp at h hx
 subst hx;omega
theorem lO {n:Nat}(h:n<9223372036854775807):wrap64 ((n:Int)+1)=((n+1:Nat):Int):=by unfold wrap64;omega
abbrev gw0 {w:World}(_:G w):World:=w
theorem aG {P:Program}{c:Code}{Q:Exit->Act->World->Prop}{a:Act}{w:World}(h:∀g:G w,c.wp P Q a g.W):c.wp P Q a w:=h ⟨w,ar _ _⟩
def pX (f:FuncId)(x:S116)(r:Int):Prop:=∀(A:Option Addr) (c:Nat) (w:World),dC.C w A x.f3.length x.f3->x.f3.length<=c->
 Calls au f #[.agg #[.int .i64 x.f0,.int .u64 x.f1,.string x.f2,.slice A x.f3.length c]] w fun e w'=>e=.returned (.int .i64 r)/\Below w.heap.size w w'
theorem deep_walk (x:S116)(hb:gH x<=1099511627776)(ih:∀y∈x.f3,pX 245 y (gH y)):pX 245 x (gH x):=by
 intro A c w hc hl;have gout:=@gA w;rw[qJ]at hb ⊢;obtain⟨x0,x1,x2,l⟩:=x;simp only at*;have IH:=aa ih;have HC:=aa hc;have HB:=aa hb;have hlm:=hc.2.1;clear ih hc hb;go_enter Tryz.func245,Tryz.ntmps245
 go_upto_region 1 with (fail)
 refine aG ?_;intro gg
 go_wp2
 go_loopw [4,3] (fun i n W=>∃(k:Nat) (g:G (gw0 gg)),i=.int .i64 k/\n=.int .i64 (jG (l.take k))/\W=g.W/\k<=l.length) (fun i n _=>l.length - (intOf i).toNat)
 case atStart=>exact⟨0,gg,rfl,rfl,rfl,bk _⟩
 case round=>
  obtain⟨k,g,rfl,rfl,rfl,hk⟩:=hrel
  by_cases hlt:k<l.length
  ·obtain⟨ad,A3,c3,e1,q0,q1,q2,q3,l3,g3⟩:=iD HC.out (k:Int) (bo _) (by omega);cases e1;rw[ax]at q0 q1 q2 q3;replace q0:=((gout g).cell (av w _ q0)).trans q0;replace q1:=((gout g).cell (av w _ q1)).trans q1;replace q2:=((gout g).cell (av w _ q2)).trans q2;replace q3:=((gout g).cell (av w _ q3)).trans q3
   have hi1:(k:Int)<(l.length:Int):=by omega
   have G3:=aa g3;have L3:=aa l3;clear g3 l3;have MEM:=aa (gS hlt);have T:=aa (congrArg jG (dS hlt));go_wp2_with fail;refine(aD (g:=g) (IH.out _ MEM.out A3 c3 g.W (Kd.aF G3.out (gout g)) L3.out)).mono ?_;rintro _ _ ⟨rfl,gg2,rfl⟩
   rcases gu (jG (l.take k)) (gH (bR l (k:Int)))with h | h
   ·have h2:(jG (l.take k):Int)<(gH (bR l (k:Int)):Int):=by omega
    go_wp2_with fail;have T2:=T.out;rw[rV]at T2;exact⟨⟨k+1,gg2,by go_num,by rw[T2,Nat.max_eq_right (Nat.le_of_lt h)],rfl,by omega⟩,by simp[intOf];omega⟩
   ·have h2:¬(jG (l.take k):Int)<(gH (bR l (k:Int)):Int):=by omega
    go_wp2_with fail;have T2:=T.out;rw[rV]at T2;exact⟨⟨k+1,gg2,by go_num,by rw[T2,Nat.max_eq_left h],rfl,by omega⟩,by simp[intOf];omega⟩
  ·have W:=aa (lO (n:=jG l) (by have:=HB.out;omega));go_wp2_with fail;go_ret;refine⟨?_,gout g⟩;rw[show k=l.length by omega,eu,W.out];rfl
theorem deep_calls:∀(n:Nat) (x:S116),cz x<=n->gH x<=1099511627776->pX 245 x (gH x):=by
 intro n
 induction n with
 |zero=>intro x h;obtain⟨a,b,c,l⟩:=x;simp at h
 |succ n ih=>
  intro x h hb;exact deep_walk x hb fun y hy=>ih y (eV rfl hy h) (by have:=deepL_mem hy;rw[qJ]at hb;omega)
end
end Go.Proofs.YtfigjpehecibeaaGreat.L
namespace Go.Proofs.YtfigjpehecibeaaGreat.L
open Go.RowKit Go.Proofs.YtfigjpehecibeaaGreatW.PrintWords Go.Proofs.YtfigjpehecibeaaGreatW.PrintLast Go.Proofs.YtfigjpehecibeaaGreatW.PrintMore
section
attribute [local go_sem] jJ gV lV j4 gY iB jU jQ
def cadenceref16_power.l0:Nat->Int->Int->Option (Bool)
 |0,_,_=>ak
 |k+1,x0,x3=>if x3<=256 then(if x0=x3 then(ag af)else(cadenceref16_power.l0 k x0 (IntKind.u64.wrap (2*x3))))else(ag ac)
def cadenceref16_power.f (k:Nat)(a0:Int):Option (Bool):=cadenceref16_power.l0 k a0 1
theorem cadenceref16_power.calls (k:Nat)(a0:Int)(r:Bool)(w:World)(h:cadenceref16_power.f k a0=ag r):
 Calls au 224 #[.int .u64 a0] w fun e w'=>e=.returned (.bool r)/\Drawn0 w w':=by
 have H:(cadenceref16_power.l0 k a0 1)=ag r:=h;clear h;have H':=aa H;clear H;go_enter Tryz.func224,Tryz.ntmps224
 go_wp2
 go_loopg [3] k (fun kq v3 w'=>∃(x3_1:Int),v3=.int .u64 x3_1/\Aside0 (cadenceref16_power.l0 kq a0 x3_1=ag r)/\Aside0 (kq<=k)/\Drawn0 w w')
 case atStart=>exact⟨(1),(by first | rfl | (simp;done) | (simp[*];done)),H',⟨aq _⟩,by repeat(first | exact du _ | apply dw)⟩
 case round=>
  clear H';obtain⟨x3_1,rfl,HA,HK1,⟨m1,rfl⟩⟩:=hrel
  cases gk with
  |zero=>exact absurd HA.out (by simp[cadenceref16_power.l0])
  |succ k1=>
   have H:=HA.out;clear HA;simp only[cadenceref16_power.l0]at H
   by_cases c2:x3_1<=256
   ·rw[if_pos c2]at H;have c2b0:decide (x3_1<=256)=af:=decide_eq_true c2;clear c2
    by_cases c3:a0=x3_1
    ·rw[if_pos c3]at H;have c3b0:(a0==x3_1)=af:=beq_iff_eq.mpr c3;have c3b1:(a0 != x3_1)=ac:=bne_eq_false_iff_eq.mpr c3;clear c3;obtain rfl:=cf H
     go_wp2
     go_ret;exact⟨by first | rfl | (simp;done) | (simp[*];done),by repeat(first | exact du _ | apply dw)⟩
    ·rw[if_neg c3]at H;have c3b0:(a0==x3_1)=ac:=beq_eq_false_iff_ne.mpr c3;have c3b1:(a0 != x3_1)=af:=bne_iff_ne.mpr c3;have H':=aa H;clear H
     go_wp2
     go_roundg k1
     case measure=>have:=HK1.out;omega
     case rel=>exact⟨(IntKind.u64.wrap (2*x3_1)),(by first | rfl | (simp;done) | (simp[*];done)),H',⟨by have:=HK1.out;omega⟩,by repeat(first | exact du _ | apply dw)⟩
   ·rw[if_neg c2]at H;have c2b0:decide (x3_1<=256)=ac:=decide_eq_false c2;clear c2;obtain rfl:=cf H
    go_wp2
    go_ret;exact⟨by first | rfl | (simp;done) | (simp[*];done),by repeat(first | exact du _ | apply dw)⟩
def cadenceref16_Words.f (a0_0:Int)(a0_1:ByteArray)(a0_2:Int)(l0_3:List Int):Option (Int):=if a0_2=0 then(ag 1)else(ag a0_2)
theorem cadenceref16_Words.calls (a0_0:Int)(a0_1:ByteArray)(a0_2:Int)(A0_3:Option Addr)(c0_3:Nat)(l0_3:List Int)(r:Int)(w:World)(hr0_3:Kd.C (Kd.int .u64) w A0_3 l0_3.length l0_3)(hc0_3:l0_3.length<=c0_3)(h:cadenceref16_Words.f a0_0 a0_1 a0_2 l0_3=ag r):
 Calls au 56 #[.agg #[.int .i64 a0_0,.string a0_1,.int .i64 a0_2,.slice A0_3 l0_3.length c0_3]] w fun e w'=>e=.returned (.int .i64 r)/\Below w.heap.size w w':=by
 have H:=aa h;clear h hr0_3 hc0_3;go_enter Tryz.func56,Tryz.ntmps56
 go_wp2
 all_goals(
  go_ret;have h:=H.out;unfold cadenceref16_Words.f at h;refine⟨?_,by first | exact(ar _ _).alloc (aq _) _ | exact ar _ _ | (repeat(first | exact du _ | apply dw))⟩
  simp_all)
def cadenceref16_Decl.l0:Nat->ByteArray->Int->ByteArray->Int->Int->List (S70)->List (S119)->Option (Int)
 |0,_,_,_,_,_,_,_=>ak
 |k+1,x1,x5,x167000,x167001,x167002,x167003,x167004=>if x5<(x167003.length:Int)then(if 0<=x5 then(if((aI x167003 x5).f1).toList=x1.toList then(ag x5)else(cadenceref16_Decl.l0 k x1 (wrap64 (x5+1)) x167000 x167001 x167002 x167003 x167004))else(ak))else(ag (-1))
def cadenceref16_Decl.f (k:Nat)(a0_0:ByteArray)(a0_1:Int)(a0_2:Int)(l0_3:List (S70))(l0_4:List (S119))(a1:ByteArray):Option (Int):=cadenceref16_Decl.l0 k a1 0 a0_0 a0_1 a0_2 l0_3 l0_4
theorem cadenceref16_Decl.calls (k:Nat)(a0_0:ByteArray)(a0_1:Int)(a0_2:Int)(A0_3:Option Addr)(c0_3:Nat)(l0_3:List (S70))(A0_4:Option Addr)(c0_4:Nat)(l0_4:List (S119))(a1:ByteArray)(r:Int)(w:World)(hr0_3:Kd.C k70 w A0_3 l0_3.length l0_3)(hc0_3:l0_3.length<=c0_3)(hr0_4:Kd.C dN w A0_4 l0_4.length l0_4)(hc0_4:l0_4.length<=c0_4)(h:cadenceref16_Decl.f k a0_0 a0_1 a0_2 l0_3 l0_4 a1=ag r):
 Calls au 225 #[.agg #[.string a0_0,.int .i64 a0_1,.int .i64 a0_2,.slice A0_3 l0_3.length c0_3,.slice A0_4 l0_4.length c0_4],.string a1] w fun e w'=>e=.returned (.int .i64 r)/\Below w.heap.size w w':=by
 have hu29:=Tryz.underlying25;have HR0_3:=aa hr0_3;have HC0_3:=aa hc0_3;clear hr0_3 hc0_3;have HR0_4:=aa hr0_4;have HC0_4:=aa hc0_4;clear hr0_4 hc0_4;have HB:=aa (ar w.heap.size w);have H:(cadenceref16_Decl.l0 k a1 0 a0_0 a0_1 a0_2 l0_3 l0_4)=ag r:=h;clear h;have H':=aa H;clear H;go_enter Tryz.func225,Tryz.ntmps225
 go_wp2_with (first | ((with_reducible refine qE (N:=2) rfl ?_);refine rX ?hg (N:=2) ?hd (cs:= #[.string a0_0,.int .i64 a0_1,.int .i64 a0_2,.slice A0_3 l0_3.length c0_3,.slice A0_4 l0_4.length c0_4]) (t:=25) ?hr ?_;(case hd=>rfl);(case hg=>rfl);(case hr=>first | (go_simp;done) | (go_simp;rfl));intro gb166 hg w3 hbox hb;have n0_:=aa (gJ (by repeat(first | (with_reducible first | exact HB.out | apply aT | apply aO | apply aU) | exact HB.out)) hb);have n1_:=aa (hbox);have n2_:=aa ((by rw[hg];exact(gI (by repeat(first | (with_reducible first | exact HB.out | apply aT | apply aO | apply aU) | exact HB.out))):w.heap.size<=gb166));have n3_:=aa ((by rw[hg];exact(gI (by repeat(first | (with_reducible first | exact HB.out | apply aT | apply aO | apply aU) | exact HB.out))):w.heap.size<=gb166));clear HB;have HB:=n0_;have BK166:=n1_;have GW166:=n2_;have GE166:=n3_;clear n0_ n1_ n2_ n3_;clear hb hbox hg))
 go_loopg [5] k (fun kq v5 w'=>∃(x5_1:Int),v5=.int .i64 x5_1/\Aside0 (cadenceref16_Decl.l0 kq a1 x5_1 a0_0 a0_1 a0_2 l0_3 l0_4=ag r)/\Aside0 (kq<=k)/\Aside0 (w'.heap[gb166]? =ag (.cells #[.string a0_0,.int .i64 a0_1,.int .i64 a0_2,(.slice A0_3 l0_3.length c0_3),(.slice A0_4 l0_4.length c0_4)] 25 (0,0)))/\Aside0 (Below w.heap.size w w'))
 case atStart=>exact⟨(0),(by first | rfl | (simp;done) | (simp[*];done)),H',⟨aq _⟩,⟨by(with_reducible repeat(first | refine blk_drewN ?_ _ | refine blk_drew ?_ | refine eR ?_ _));exact BK166.out⟩,⟨by repeat(first | (with_reducible first | exact HB.out | apply aT | apply aO | apply aU | refine kD ?_ GE166.out) | exact HB.out)⟩⟩
 case round=>
  clear H'
  try clear c2
  try clear p2
  obtain⟨x5_1,rfl,HA,HK1,BK166,HB⟩:=hrel
  cases gk with
  |zero=>exact absurd HA.out (by simp[cadenceref16_Decl.l0])
  |succ k1=>
   have H:=HA.out;clear HA;simp only[cadenceref16_Decl.l0]at H
   by_cases c4:x5_1<(l0_3.length:Int)
   ·rw[if_pos c4]at H;have c4b0:decide (x5_1<(l0_3.length:Int))=af:=decide_eq_true c4;clear c4
    by_cases c5:0<=x5_1
    ·rw[if_pos c5]at H;have c5b0:decide (0<=x5_1)=af:=decide_eq_true c5;clear c5
     by_cases c6:((aI l0_3 x5_1).f1).toList=a1.toList
     ·rw[if_pos c6]at H;have c6b0:(((aI l0_3 x5_1).f1).toList==a1.toList)=af:=beq_iff_eq.mpr c6;have c6b1:(((aI l0_3 x5_1).f1).toList != a1.toList)=ac:=bne_eq_false_iff_eq.mpr c6;clear c6;obtain rfl:=cf H;have hcz7_0:wr.cell? ⟨gb166,0,ak⟩=ag (.string a0_0):=(aA BK166.out 0).trans rfl;have hcz7_1:wr.cell? ⟨gb166,1,ak⟩=ag (.int .i64 a0_1):=(aA BK166.out 1).trans rfl;have hcz7_2:wr.cell? ⟨gb166,2,ak⟩=ag (.int .i64 a0_2):=(aA BK166.out 2).trans rfl;have hcz7_3:wr.cell? ⟨gb166,3,ak⟩=ag (.slice A0_3 l0_3.length c0_3):=(aA BK166.out 3).trans rfl;have hcz7_4:wr.cell? ⟨gb166,4,ak⟩=ag (.slice A0_4 l0_4.length c0_4):=(aA BK166.out 4).trans rfl;have hfz7_0:=aH BK166.out 0;have hfz7_1:=aH BK166.out 1;have hfz7_2:=aH BK166.out 2;have hfz7_3:=aH BK166.out 3;have hfz7_4:=aH BK166.out 4;have p167:0<=(x5_1:Int):=of_decide_eq_true (by first | (with_reducible assumption) | assumption);have q167:x5_1<(l0_3.length:Int):=of_decide_eq_true (by first | (with_reducible assumption) | assumption);obtain⟨ad167,A167_3,c167_3,e167,hx167_0,hx167_1,hx167_2,hx167_3,hl167_3,hi167_3⟩:=eD HR0_3.out x5_1 p167 q167;cases e167;replace hx167_0:=(HB.out.cell (av w _ hx167_0)).trans hx167_0;replace hx167_1:=(HB.out.cell (av w _ hx167_1)).trans hx167_1;replace hx167_2:=(HB.out.cell (av w _ hx167_2)).trans hx167_2;replace hx167_3:=(HB.out.cell (av w _ hx167_3)).trans hx167_3;have HR167_3:=aa hi167_3;have HC167_3:=aa hl167_3;clear hi167_3 hl167_3;replace p167:=eq_true p167;replace q167:=eq_true q167
      go_wp2
      go_ret;exact⟨by first | rfl | (simp[bV,bW] <;> rfl) | (simp[*,bV,bW] <;> rfl),by repeat(first | (with_reducible first | exact HB.out | apply aT | apply aO | apply aU | refine kD ?_ GE166.out) | exact HB.out)⟩
     ·rw[if_neg c6]at H;have c6b0:(((aI l0_3 x5_1).f1).toList==a1.toList)=ac:=beq_eq_false_iff_ne.mpr c6;have c6b1:(((aI l0_3 x5_1).f1).toList != a1.toList)=af:=bne_iff_ne.mpr c6;have H':=aa H;clear H;have hcz8_0:wr.cell? ⟨gb166,0,ak⟩=ag (.string a0_0):=(aA BK166.out 0).trans rfl;have hcz8_1:wr.cell? ⟨gb166,1,ak⟩=ag (.int .i64 a0_1):=(aA BK166.out 1).trans rfl;have hcz8_2:wr.cell? ⟨gb166,2,ak⟩=ag (.int .i64 a0_2):=(aA BK166.out 2).trans rfl;have hcz8_3:wr.cell? ⟨gb166,3,ak⟩=ag (.slice A0_3 l0_3.length c0_3):=(aA BK166.out 3).trans rfl;have hcz8_4:wr.cell? ⟨gb166,4,ak⟩=ag (.slice A0_4 l0_4.length c0_4):=(aA BK166.out 4).trans rfl;have hfz8_0:=aH BK166.out 0;have hfz8_1:=aH BK166.out 1;have hfz8_2:=aH BK166.out 2;have hfz8_3:=aH BK166.out 3;have hfz8_4:=aH BK166.out 4;have p167:0<=(x5_1:Int):=of_decide_eq_true (by first | (with_reducible assumption) | assumption);have q167:x5_1<(l0_3.length:Int):=of_decide_eq_true (by first | (with_reducible assumption) | assumption);obtain⟨ad167,A167_3,c167_3,e167,hx167_0,hx167_1,hx167_2,hx167_3,hl167_3,hi167_3⟩:=eD HR0_3.out x5_1 p167 q167;cases e167;replace hx167_0:=(HB.out.cell (av w _ hx167_0)).trans hx167_0;replace hx167_1:=(HB.out.cell (av w _ hx167_1)).trans hx167_1;replace hx167_2:=(HB.out.cell (av w _ hx167_2)).trans hx167_2;replace hx167_3:=(HB.out.cell (av w _ hx167_3)).trans hx167_3;have HR167_3:=aa hi167_3;have HC167_3:=aa hl167_3;clear hi167_3 hl167_3;replace p167:=eq_true p167;replace q167:=eq_true q167
      go_wp2
      go_roundg k1
      case measure=>have:=HK1.out;omega
      case rel=>exact⟨(wrap64 (x5_1+1)),(by first | rfl | (simp;done) | (simp[*];done)),H',⟨by have:=HK1.out;omega⟩,⟨by(with_reducible repeat(first | refine blk_drewN ?_ _ | refine blk_drew ?_ | refine eR ?_ _));exact BK166.out⟩,⟨by repeat(first | (with_reducible first | exact HB.out | apply aT | apply aO | apply aU | refine kD ?_ GE166.out) | exact HB.out)⟩⟩
    ·rw[if_neg c5]at H;exact absurd H (by simp)
   ·rw[if_neg c4]at H;have c4b0:decide (x5_1<(l0_3.length:Int))=ac:=decide_eq_false c4;clear c4;obtain rfl:=cf H;have hcz9_0:wr.cell? ⟨gb166,0,ak⟩=ag (.string a0_0):=(aA BK166.out 0).trans rfl;have hcz9_1:wr.cell? ⟨gb166,1,ak⟩=ag (.int .i64 a0_1):=(aA BK166.out 1).trans rfl;have hcz9_2:wr.cell? ⟨gb166,2,ak⟩=ag (.int .i64 a0_2):=(aA BK166.out 2).trans rfl;have hcz9_3:wr.cell? ⟨gb166,3,ak⟩=ag (.slice A0_3 l0_3.length c0_3):=(aA BK166.out 3).trans rfl;have hcz9_4:wr.cell? ⟨gb166,4,ak⟩=ag (.slice A0_4 l0_4.length c0_4):=(aA BK166.out 4).trans rfl;have hfz9_0:=aH BK166.out 0;have hfz9_1:=aH BK166.out 1;have hfz9_2:=aH BK166.out 2;have hfz9_3:=aH BK166.out 3;have hfz9_4:=aH BK166.out 4
    go_wp2
    go_ret;exact⟨by first | rfl | (simp[bV,bW] <;> rfl) | (simp[*,bV,bW] <;> rfl),by repeat(first | (with_reducible first | exact HB.out | apply aT | apply aO | apply aU | refine kD ?_ GE166.out) | exact HB.out)⟩
def cadenceref16_fits.f (a0:Int)(a1:Int):Option (Bool):=if a0 ≥ 64 then(ag af)else(if 0<=(IntKind.u64.wrap (a0))then(ag (decide (a1<(shl .u64 1 (IntKind.u64.wrap (a0))))))else(ak))
theorem cadenceref16_fits.calls (a0:Int)(a1:Int)(r:Bool)(w:World)(h:cadenceref16_fits.f a0 a1=ag r):
 Calls au 226 #[.int .i64 a0,.int .u64 a1] w fun e w'=>e=.returned (.bool r)/\Drawn0 w w':=by
 have H:(if a0 ≥ 64 then(ag af)else(if 0<=(IntKind.u64.wrap (a0))then(ag (decide (a1<(shl .u64 1 (IntKind.u64.wrap (a0))))))else(ak)))=ag r:=h;clear h
 by_cases c3:a0 ≥ 64
 ·rw[if_pos c3]at H;have c3b0:decide (64<=a0)=af:=decide_eq_true c3;clear c3;obtain rfl:=cf H;go_enter Tryz.func226,Tryz.ntmps226
  go_wp2
  go_ret;exact⟨by first | rfl | (simp;done) | (simp[*];done),by repeat(first | exact du _ | apply dw)⟩
 ·rw[if_neg c3]at H;have c3b0:decide (64<=a0)=ac:=decide_eq_false c3;clear c3;obtain⟨ji4,hji4⟩:∃j_:Int,(IntKind.u64.wrap (a0))=j_:=⟨_,rfl⟩
  replace H:(if 0<=(ji4)then(ag (decide (a1<(shl .u64 1 (ji4)))))else(ak))=ag r:=by first | (rw[hji4]at H;exact H) | (simp only[hji4]at H ⊢;exact H)
  by_cases c5:0<=(ji4)
  ·rw[if_pos c5]at H;have c5b0:=eq_true c5;have c5b1:decide (0<=(ji4))=af:=decide_eq_true c5;clear c5;obtain⟨ji6,hji6⟩:∃j_:Int,(shl .u64 1 (ji4))=j_:=⟨_,rfl⟩
   replace H:(ag (decide (a1<(ji6))))=ag r:=by first | (rw[hji6]at H;exact H) | (simp only[hji6]at H ⊢;exact H)
   have hji6_:(IntKind.u64.wrap (1*2 ^ min (ji4).toNat 64))=ji6:=hji6;have hji6z:(ji4)<=64->(IntKind.u64.wrap (1*2 ^ (ji4).toNat))=ji6:=shl_small hji6
   have hji6u:(IntKind.u64.wrap (2 ^ min (ji4).toNat 64))=ji6:=by have h_:=hji6_;rw[Int.one_mul]at h_;exact h_
   have hji6v:(ji4)<=64->(IntKind.u64.wrap (2 ^ (ji4).toNat))=ji6:=fun hle_=>by have h_:=hji6z hle_;rw[Int.one_mul]at h_;exact h_
   obtain rfl:=cf H;go_enter Tryz.func226,Tryz.ntmps226
   go_wp2
   go_ret;exact⟨by first | rfl | (simp;done) | (simp only[←hji4,←hji6] <;> (first | rfl | simp)) | (simp[*];done),by repeat(first | exact du _ | apply dw)⟩
  ·rw[if_neg c5]at H;exact absurd H (by simp)
def cadenceref16_in.l0:Nat->List ByteArray->ByteArray->Int->Option (Bool)
 |0,_,_,_=>ak
 |k+1,x0,x1,x5=>if x5<(x0.length:Int)then(if 0<=x5 then(if(rdOf gi x0 x5).toList=x1.toList then(ag af)else(cadenceref16_in.l0 k x0 x1 (wrap64 (x5+1))))else(ak))else(ag ac)
def cadenceref16_in.f (k:Nat)(l0:List ByteArray)(a1:ByteArray):Option (Bool):=cadenceref16_in.l0 k l0 a1 0
theorem cadenceref16_in.calls (k:Nat)(A0:Option Addr)(c0:Nat)(l0:List ByteArray)(a1:ByteArray)(r:Bool)(w:World)(hr0:Kd.C Kd.string w A0 l0.length l0)(hc0:l0.length<=c0)(h:cadenceref16_in.f k l0 a1=ag r):
 Calls au 131 #[.slice A0 l0.length c0,.string a1] w fun e w'=>e=.returned (.bool r)/\Drawn0 w w':=by
 have HR0:=aa hr0;have HC0:=aa hc0;clear hr0 hc0;have H:(cadenceref16_in.l0 k l0 a1 0)=ag r:=h;clear h;have H':=aa H;clear H;go_enter Tryz.func131,Tryz.ntmps131
 go_wp2
 go_loopg [5] k (fun kq v5 w'=>∃(x5_1:Int),v5=.int .i64 x5_1/\Aside0 (cadenceref16_in.l0 kq l0 a1 x5_1=ag r)/\Aside0 (kq<=k)/\Drawn0 w w')
 case atStart=>exact⟨(0),(by first | rfl | (simp;done) | (simp[*];done)),H',⟨aq _⟩,by repeat(first | exact du _ | apply dw)⟩
 case round=>
  clear H'
  try clear p2
  obtain⟨x5_1,rfl,HA,HK1,⟨m1,rfl⟩⟩:=hrel
  cases gk with
  |zero=>exact absurd HA.out (by simp[cadenceref16_in.l0])
  |succ k1=>
   have H:=HA.out;clear HA;simp only[cadenceref16_in.l0]at H
   by_cases c3:x5_1<(l0.length:Int)
   ·rw[if_pos c3]at H;have c3b0:decide (x5_1<(l0.length:Int))=af:=decide_eq_true c3;clear c3
    by_cases c4:0<=x5_1
    ·rw[if_pos c4]at H;have c4b0:decide (0<=x5_1)=af:=decide_eq_true c4;clear c4
     by_cases c5:(rdOf gi l0 x5_1).toList=a1.toList
     ·rw[if_pos c5]at H;have c5b0:((rdOf gi l0 x5_1).toList==a1.toList)=af:=beq_iff_eq.mpr c5;have c5b1:((rdOf gi l0 x5_1).toList != a1.toList)=ac:=bne_eq_false_iff_eq.mpr c5;clear c5;obtain rfl:=cf H;have p193:0<=(x5_1:Int):=of_decide_eq_true (by first | (with_reducible assumption) | assumption);have q193:x5_1<(l0.length:Int):=of_decide_eq_true (by first | (with_reducible assumption) | assumption);obtain⟨ad193,e193,hx193_0⟩:=Kd.nU HR0.out x5_1 p193 q193;cases e193;replace p193:=eq_true p193;replace q193:=eq_true q193
      go_wp2
      go_ret;exact⟨by first | rfl | (simp;done) | (simp[*];done),by repeat(first | exact du _ | apply dw)⟩
     ·rw[if_neg c5]at H;have c5b0:((rdOf gi l0 x5_1).toList==a1.toList)=ac:=beq_eq_false_iff_ne.mpr c5;have c5b1:((rdOf gi l0 x5_1).toList != a1.toList)=af:=bne_iff_ne.mpr c5;have H':=aa H;clear H;have p193:0<=(x5_1:Int):=of_decide_eq_true (by first | (with_reducible assumption) | assumption);have q193:x5_1<(l0.length:Int):=of_decide_eq_true (by first | (with_reducible assumption) | assumption);obtain⟨ad193,e193,hx193_0⟩:=Kd.nU HR0.out x5_1 p193 q193;cases e193;replace p193:=eq_true p193;replace q193:=eq_true q193
      go_wp2
      go_roundg k1
      case measure=>have:=HK1.out;omega
      case rel=>exact⟨(wrap64 (x5_1+1)),(by first | rfl | (simp;done) | (simp[*];done)),H',⟨by have:=HK1.out;omega⟩,by repeat(first | exact du _ | apply dw)⟩
    ·rw[if_neg c4]at H;exact absurd H (by simp)
   ·rw[if_neg c3]at H;have c3b0:decide (x5_1<(l0.length:Int))=ac:=decide_eq_false c3;clear c3;obtain rfl:=cf H
    go_wp2
    go_ret;exact⟨by first | rfl | (simp;done) | (simp[*];done),by repeat(first | exact du _ | apply dw)⟩
def cadenceref16_cut.f (a0:Int):Option (Int):=if a0 > 65536 then(ag 65537)else(ag a0)
theorem cadenceref16_cut.calls (a0:Int)(r:Int)(w:World)(h:cadenceref16_cut.f a0=ag r):
 Calls au 229 #[.int .i64 a0] w fun e w'=>e=.returned (.int .i64 r)/\Drawn0 w w':=by
 have H:(if a0 > 65536 then(ag 65537)else(ag a0))=ag r:=h;clear h
 by_cases c2:a0 > 65536
 ·rw[if_pos c2]at H;have c2b0:decide (65536<a0)=af:=decide_eq_true c2;clear c2;obtain rfl:=cf H;go_enter Tryz.func229,Tryz.ntmps229
  go_wp2
  go_ret;exact⟨by first | rfl | (simp;done) | (simp[*];done),by repeat(first | exact du _ | apply dw)⟩
 ·rw[if_neg c2]at H;have c2b0:decide (65536<a0)=ac:=decide_eq_false c2;clear c2;obtain rfl:=cf H;go_enter Tryz.func229,Tryz.ntmps229
  go_wp2
  go_ret;exact⟨by first | rfl | (simp;done) | (simp[*];done),by repeat(first | exact du _ | apply dw)⟩
def wf_plus.l0:Nat->Int->List Int->Int->Int->Option (Int)
 |0,_,_,_,_=>ak
 |k+1,x3,x6,x7,x8=>if x8<x7 then(if 0<=x8 then(if x8<(x6.length:Int)then(wf_plus.l0 k (mn (wrap64 (x3+(rd x6 x8))) 1099511627776) x6 x7 (wrap64 (x8+1)))else(ak))else(ak))else(ag x3)
def wf_plus.f (k:Nat)(l0:List Int):Option (Int):=wf_plus.l0 k 0 l0 (l0.length:Int) 0
theorem wf_plus.calls (k:Nat)(A0:Option Addr)(c0:Nat)(l0:List Int)(r:Int)(w:World)(hr0:Kd.C (Kd.int .i64) w A0 l0.length l0)(hc0:l0.length<=c0)(h:wf_plus.f k l0=ag r):
 Calls au 155 #[.slice A0 l0.length c0] w fun e w'=>e=.returned (.int .i64 r)/\Below w.heap.size w w':=by
 have HR0:=aa hr0;have HC0:=aa hc0;clear hr0 hc0;have HB:=aa (ar w.heap.size w);have H:(wf_plus.l0 k 0 l0 (l0.length:Int) 0)=ag r:=h;clear h;have H':=aa H;clear H;go_enter Tryz.func155,Tryz.ntmps155
 go_wp2
 go_loopg [3,8] k (fun kq v3 v8 w'=>∃(x3_1:Int) (x8_1:Int),v3=.int .i64 x3_1/\v8=.int .i64 x8_1/\Aside0 (wf_plus.l0 kq x3_1 l0 (l0.length:Int) x8_1=ag r)/\Aside0 (kq<=k)/\Aside0 (Below w.heap.size w w'))
 case atStart=>exact⟨(0),(0),(by first | rfl | (simp;done) | (simp[*];done)),(by first | rfl | (simp;done) | (simp[*];done)),H',⟨aq _⟩,⟨by repeat(first | (with_reducible first | exact HB.out | apply aT | apply aO | apply aU) | exact HB.out)⟩⟩
 case round=>
  clear H';obtain⟨x3_1,x8_1,rfl,rfl,HA,HK1,HB⟩:=hrel
  cases gk with
  |zero=>exact absurd HA.out (by simp[wf_plus.l0])
  |succ k1=>
   have H:=HA.out;clear HA;simp only[wf_plus.l0]at H
   by_cases c2:x8_1<(l0.length:Int)
   ·rw[if_pos c2]at H;have c2b0:decide (x8_1<(l0.length:Int))=af:=decide_eq_true c2;clear c2
    by_cases c3:0<=x8_1
    ·rw[if_pos c3]at H;have c3b0:decide (0<=x8_1)=af:=decide_eq_true c3;clear c3
     by_cases c4:x8_1<(l0.length:Int)
     ·rw[if_pos c4]at H;have c4b0:decide (x8_1<(l0.length:Int))=af:=decide_eq_true c4;clear c4;obtain⟨ji5,hji5⟩:∃j_:Int,(mn (wrap64 (x3_1+(rd l0 x8_1))) 1099511627776)=j_:=⟨_,rfl⟩
      replace H:(wf_plus.l0 k1 ji5 l0 (l0.length:Int) (wrap64 (x8_1+1)))=ag r:=by first | (rw[hji5]at H;exact H) | (simp only[hji5]at H ⊢;exact H)
      have hji5_:(if 1099511627776<(wrap64 (x3_1+(rd l0 x8_1)))then 1099511627776 else(wrap64 (x3_1+(rd l0 x8_1))))=ji5:=hji5;have H':=aa H;clear H;have p237:0<=(x8_1:Int):=of_decide_eq_true (by first | (with_reducible assumption) | assumption);have q237:x8_1<(l0.length:Int):=of_decide_eq_true (by first | (with_reducible assumption) | assumption);obtain⟨ad237,e237,hx237_0⟩:=Kd.at_int HR0.out x8_1 p237 q237;cases e237;replace hx237_0:=(HB.out.cell (av w _ hx237_0)).trans hx237_0;replace p237:=eq_true p237;replace q237:=eq_true q237
      go_wp2
      go_roundg k1
      case measure=>have:=HK1.out;omega
      case rel=>exact⟨(ji5),(wrap64 (x8_1+1)),(by first | rfl | (simp;done) | (simp only[←hji5] <;> (first | rfl | simp)) | (simp[*];done)),(by first | rfl | (simp;done) | (simp[*];done)),H',⟨by have:=HK1.out;omega⟩,⟨by repeat(first | (with_reducible first | exact HB.out | apply aT | apply aO | apply aU) | exact HB.out)⟩⟩
     ·rw[if_neg c4]at H;exact absurd H (by simp)
    ·rw[if_neg c3]at H;exact absurd H (by simp)
   ·rw[if_neg c2]at H;have c2b0:decide (x8_1<(l0.length:Int))=ac:=decide_eq_false c2;clear c2;obtain rfl:=cf H
    go_wp2
    go_ret;exact⟨by first | rfl | (simp[bV,bW] <;> rfl) | (simp[*,bV,bW] <;> rfl),by repeat(first | (with_reducible first | exact HB.out | apply aT | apply aO | apply aU) | exact HB.out)⟩
end
end Go.Proofs.YtfigjpehecibeaaGreat.L
namespace Go.Proofs.YtfigjpehecibeaaGreat.L
open Go.RowKit Go.Proofs.YtfigjpehecibeaaGreatW.PrintWords Go.Proofs.YtfigjpehecibeaaGreatW.PrintLast Go.Proofs.YtfigjpehecibeaaGreatW.PrintMore Go.Proofs.YtfigjpehecibeaaGreat.Gr
section
attribute [local go_sem] G.cell
attribute [local go_sem] jJ gV lV j4 gY iB jU jQ
theorem max_val (a b:Nat):(if a<b then(b:Int)else(a:Int))=((max a b:Nat):Int):=by split <;> omega
theorem depth_walk (x:S116)(hb:gH x<=1099511627776)(ih:∀y∈x.f3,pX 192 y (gH y)):pX 192 x (gH x):=by
 intro A c w hc hl;have gout:=@gA w;rw[qJ]at hb ⊢;obtain⟨x0,x1,x2,l⟩:=x;simp only at*;have IH:=aa ih;have HC:=aa hc;have HB:=aa hb;have hlm:=hc.2.1;clear ih hc hb;go_enter Tryz.func192,Tryz.ntmps192
 go_upto_region 1 with (fail)
 refine aG ?_;intro gg
 go_wp2
 go_loopw [9,3] (fun i n W=>∃(k:Nat) (g:G (gw0 gg)),i=.int .i64 k/\n=.int .i64 (jG (l.take k))/\W=g.W/\k<=l.length) (fun i n _=>l.length - (intOf i).toNat)
 case atStart=>exact⟨0,gg,rfl,rfl,rfl,bk _⟩
 case round=>
  obtain⟨k,g,rfl,rfl,rfl,hk⟩:=hrel
  by_cases hlt:k<l.length
  ·obtain⟨ad,A3,c3,e1,q0,q1,q2,q3,l3,g3⟩:=iD HC.out (k:Int) (bo _) (by omega);cases e1;rw[ax]at q0 q1 q2 q3;replace q0:=((gout g).cell (av w _ q0)).trans q0;replace q1:=((gout g).cell (av w _ q1)).trans q1;replace q2:=((gout g).cell (av w _ q2)).trans q2;replace q3:=((gout g).cell (av w _ q3)).trans q3
   have hi1:(k:Int)<(l.length:Int):=by omega
   have G3:=aa g3;have L3:=aa l3;clear g3 l3;have MEM:=aa (gS hlt);have T:=aa (congrArg jG (dS hlt));go_wp2_with fail;refine(cU (g:=g) (IH.out _ MEM.out A3 c3 _ (Kd.aF G3.out ((gout g).alloc (gout g).size _)) L3.out)).mono ?_;rintro _ _ ⟨rfl,gg2,rfl⟩;go_wp2_with fail;have T2:=T.out;rw[rV]at T2;exact⟨⟨k+1,gg2,by go_num,by rw[T2,←max_val],rfl,by omega⟩,by simp[intOf];omega⟩
  ·have W:=aa (lO (n:=jG l) (by have:=HB.out;omega));go_wp2_with fail;go_ret;refine⟨?_,gout g⟩;rw[show k=l.length by omega,eu,W.out];rfl
theorem depth_calls:∀(n:Nat) (x:S116),cz x<=n->gH x<=1099511627776->pX 192 x (gH x):=by
 intro n
 induction n with
 |zero=>intro x h;obtain⟨a,b,c,l⟩:=x;simp at h
 |succ n ih=>
  intro x h hb;exact depth_walk x hb fun y hy=>ih y (eV rfl hy h) (by have:=deepL_mem hy;rw[qJ]at hb;omega)
mutual
def aM:S116->Nat
 | ⟨_,_,_,l⟩=>1+bM l
def bM:List S116->Nat
 | []=>0
 |x::r=>aM x+bM r
end
theorem eE (x:S116):aM x=1+bM x.f3:=by
 obtain⟨a,b,s,l⟩:=x;rw[aM]
theorem eI (l:List S116)(x:S116):bM (l++[x])=bM l+aM x:=by
 induction l with
 |nil=>simp[bM]
 |cons y r ih=>rw[gp,bM,ih,bM];omega
theorem sP {l:List S116}{x:S116}(h:x∈l):aM x<=bM l:=by
 induction l with
 |nil=>cases h
 |cons y r ih=>
  rw[bM]
  rcases iv.1 h with rfl | h
  ·omega
  ·have:=ih h;omega
theorem fP (l:List S116)(k:Nat):bM (l.take k)<=bM l:=by
 induction l generalizing k with
 |nil=>simp[bM]
 |cons y r ih=>
  cases k with
  |zero=>simp[bM]
  |succ k=>rw[List.take_succ_cons,bM,bM];have:=ih k;omega
theorem iH {a b:Nat}(h:a+b<9223372036854775807):wrap64 ((a:Int)+(b:Int))=((a+b:Nat):Int):=by unfold wrap64;omega
theorem weight_walk (x:S116)(hb:aM x<=1099511627776)(ih:∀y∈x.f3,pX 230 y (aM y)):pX 230 x (aM x):=by
 intro A c w hc hl;have gout:=@gA w;rw[eE]at hb ⊢;obtain⟨x0,x1,x2,l⟩:=x;simp only at*;have IH:=aa ih;have HC:=aa hc;have HB:=aa hb;have hlm:=hc.2.1;clear ih hc hb;go_enter Tryz.func230,Tryz.ntmps230
 go_upto_region 1 with (fail)
 refine aG ?_;intro gg
 go_wp2
 go_loopw [4,3] (fun i n W=>∃(k:Nat) (g:G (gw0 gg)),i=.int .i64 k/\(∃m:Nat,n=.int .i64 m/\m=1+bM (l.take k))/\W=g.W/\k<=l.length) (fun i n _=>l.length - (intOf i).toNat)
 case atStart=>exact⟨0,gg,rfl,⟨1,rfl,rfl⟩,rfl,bk _⟩
 case round=>
  obtain⟨k,g,rfl,⟨m,rfl,hm⟩,rfl,hk⟩:=hrel;have M:=aa hm;clear hm
  by_cases hlt:k<l.length
  ·obtain⟨ad,A3,c3,e1,q0,q1,q2,q3,l3,g3⟩:=iD HC.out (k:Int) (bo _) (by omega);cases e1;rw[ax]at q0 q1 q2 q3;replace q0:=((gout g).cell (av w _ q0)).trans q0;replace q1:=((gout g).cell (av w _ q1)).trans q1;replace q2:=((gout g).cell (av w _ q2)).trans q2;replace q3:=((gout g).cell (av w _ q3)).trans q3
   have hi1:(k:Int)<(l.length:Int):=by omega
   have G3:=aa g3;have L3:=aa l3;clear g3 l3;have MEM:=aa (gS hlt);have T:=aa (congrArg bM (dS hlt));have T1:=aa (iH (a:=m) (b:=aM (bR l (k:Int))) (by have t:=T.out;rw[eI]at t;have:=fP l (k+1);have:=HB.out;have:=M.out;omega));go_wp2_with fail;refine(aD (g:=g) (IH.out _ MEM.out A3 c3 g.W (Kd.aF G3.out (gout g)) L3.out)).mono ?_;rintro _ _ ⟨rfl,gg2,rfl⟩;go_wp2_with fail;exact⟨⟨k+1,gg2,by go_num,⟨m+aM (bR l (k:Int)),by rw[T1.out],by have t:=T.out;rw[eI]at t;rw[t,M.out];omega⟩,rfl,by omega⟩,by simp[intOf];omega⟩
  ·go_wp2_with fail;go_ret;refine⟨?_,gout g⟩;rw[M.out,show k=l.length by omega,eu];rfl
theorem jO:∀(n:Nat) (x:S116),cz x<=n->aM x<=1099511627776->pX 230 x (aM x):=by
 intro n
 induction n with
 |zero=>intro x h;obtain⟨a,b,c,l⟩:=x;simp at h
 |succ n ih=>
  intro x h hb;exact weight_walk x hb fun y hy=>ih y (eV rfl hy h) (by have:=sP hy;rw[eE]at hb;omega)
theorem plus_sum:∀(d:Nat) (l:List Int) (i k:Nat) (s:Nat),(∀x∈l,0<=x)->i+d=l.length->d<k->(s:Int)+(l.drop i).sum<=1099511627776->l.length<100->
 wf_plus.l0 k (s:Int) l (l.length:Int) (i:Int)=ag ((s:Int)+(l.drop i).sum):=by
 intro d
 induction d with
 |zero=>
  intro l i k s hp h hk hs _;obtain⟨k,rfl⟩:∃a,k=a+1:=⟨k - 1,by omega⟩;rw[wf_plus.l0,if_neg (by omega),jw (by omega)];simp
 |succ d ih=>
  intro l i k s hp h hk hs hl;obtain⟨k,rfl⟩:∃a,k=a+1:=⟨k - 1,by omega⟩
  have hi:i<l.length:=by omega
  have e:wrap64 ((i:Int)+1)=((i+1:Nat):Int):=by unfold wrap64;omega
  have er:rd l (i:Int)=l[i]:=by simp[rd,aw,hi]
  have hd:l.drop i=l[i]::l.drop (i+1):=jd hi;have hx:=hp _ (gn hi)
  have hr:0<=(l.drop (i+1)).sum:=by
   have:∀q:List Int,(∀x∈q,0<=x)->0<=q.sum:=by
    intro q
    induction q with
    |nil=>simp
    |cons a r ih=>intro h;rw[List.sum_cons];have:=h a (by simp);have:=ih fun x hx=>h x (by simp[hx]);omega
   exact this _ fun x hx=>hp x (List.mem_of_mem_drop hx)
  rw[hd,List.sum_cons]at hs ⊢;obtain⟨x,hxn⟩:∃x:Nat,l[i]=(x:Int):=⟨l[i].toNat,by omega⟩;rw[wf_plus.l0,if_pos (by omega),if_pos (by omega),if_pos (by omega),e,er,hxn,iH (by omega)];rw[hxn]at hs
  have hm:mn ((s+x:Nat):Int) 1099511627776=((s+x:Nat):Int):=by unfold mn;split <;> omega
  rw[hm,ih l (i+1) k (s+x) hp (by omega) (by omega) (by push_cast;omega) hl]
  congr 1
  push_cast
  omega
theorem plus_calls (l:List Int)(A:Option Addr)(c:Nat)(w:World)(hp:∀x∈l,0<=x)(hs:l.sum<=1099511627776)(hl:l.length<100)(hr:Kd.C (Kd.int .i64) w A l.length l)(hc:l.length<=c):
 Calls au 155 #[.slice A l.length c] w fun e w'=>e=.returned (.int .i64 l.sum)/\Below w.heap.size w w':=
 wf_plus.calls 101 A c l l.sum w hr hc (by
  have:=plus_sum l.length l 0 101 0 hp (by omega) (by omega) (by simpa using hs) hl;unfold wf_plus.f
  simpa using this)
end
section
attribute [local go_sem] G.cell
theorem lit_ints (w:World)(xs:List Int)(e:TypeId)(hm:xs.length<=100):Kd.C (Kd.int .i64) (w.alloc (.cells (xs.map (bh .i64)).toArray e)) (ag ⟨w.heap.size,0,ak⟩) xs.length xs:=by
 refine⟨rfl,by omega,fun _=>⟨_,rfl,fun i v hv=>⟨[.int .i64 v],rfl,rfl,fun j u hu=> ?_⟩⟩⟩
 have hj:j=0:=by
  have:=(fe.1 hu).1
  simp at this;omega
 subst hj
 simp at hu
 subst hu;have hi:=(fe.1 hv).1;have hv2:=(fe.1 hv).2;simp only[go_sem,Addr.add,hv];rw[show(Kd.int IntKind.i64).sz=1 from rfl,ib,gm]
 split
 ·next h=>subst h;rw[World.cell?_alloc_new];simp[hv]
 ·rw[Nat.zero_add,World.cell?_alloc_new];simp[hv]
theorem weigh_walk (x:S116)(hb:aM x<=1099511627776)(ih:∀y∈x.f3,pX 156 y (aM y)):pX 156 x (aM x):=by
 intro A c w hc hl;have gout:=@gA w;rw[eE]at hb ⊢;obtain⟨x0,x1,x2,l⟩:=x;simp only at*;have IH:=aa ih;have HC:=aa hc;have HB:=aa hb;have hlm:=hc.2.1;clear ih hc hb;go_enter Tryz.func156,Tryz.ntmps156
 go_upto_region 1 with (fail)
 refine aG ?_;intro gg
 go_wp2
 go_loopw [9,3] (fun i n W=>∃(k:Nat) (g:G (gw0 gg)),i=.int .i64 k/\(∃m:Nat,n=.int .i64 m/\m=1+bM (l.take k))/\W=g.W/\k<=l.length) (fun i n _=>l.length - (intOf i).toNat)
 case atStart=>exact⟨0,gg,rfl,⟨1,rfl,rfl⟩,rfl,bk _⟩
 case round=>
  obtain⟨k,g,rfl,⟨m,rfl,hm⟩,rfl,hk⟩:=hrel;have M:=aa hm;clear hm
  by_cases hlt:k<l.length
  ·obtain⟨ad,A3,c3,e1,q0,q1,q2,q3,l3,g3⟩:=iD HC.out (k:Int) (bo _) (by omega);cases e1;rw[ax]at q0 q1 q2 q3;replace q0:=((gout g).cell (av w _ q0)).trans q0;replace q1:=((gout g).cell (av w _ q1)).trans q1;replace q2:=((gout g).cell (av w _ q2)).trans q2;replace q3:=((gout g).cell (av w _ q3)).trans q3
   have hi1:(k:Int)<(l.length:Int):=by omega
   have G3:=aa g3;have L3:=aa l3;clear g3 l3;have MEM:=aa (gS hlt);have T:=aa (congrArg bM (dS hlt));go_wp2_with fail;refine(cU (g:=g) (IH.out _ MEM.out A3 c3 _ (Kd.aF G3.out ((gout g).alloc (gout g).size _)) L3.out)).mono ?_;rintro _ _ ⟨rfl,gg2,rfl⟩;go_wp2_with fail;refine(cU (g:=gg2) (plus_calls [(m:Int),(aM (bR l (k:Int)):Int)] (ag ⟨gg2.W.heap.size,0,ak⟩) 2 _ (by simp) (by have t:=T.out;rw[eI]at t;have:=fP l (k+1);have:=HB.out;have:=M.out;simp;omega) (by simp) (lit_ints _ _ _ (by simp)) (by simp))).mono ?_;rintro _ _ ⟨rfl,gg3,rfl⟩;go_wp2_with fail;exact⟨⟨k+1,gg3,by go_num,⟨m+aM (bR l (k:Int)),by simp,by have t:=T.out;rw[eI]at t;rw[t,M.out];omega⟩,rfl,by omega⟩,by simp[intOf];omega⟩
  ·go_wp2_with fail;go_ret;refine⟨?_,gout g⟩;rw[M.out,show k=l.length by omega,eu];rfl
theorem weigh_calls:∀(n:Nat) (x:S116),cz x<=n->aM x<=1099511627776->pX 156 x (aM x):=by
 intro n
 induction n with
 |zero=>intro x h;obtain⟨a,b,c,l⟩:=x;simp at h
 |succ n ih=>
  intro x h hb;exact weigh_walk x hb fun y hy=>ih y (eV rfl hy h) (by have:=sP hy;rw[eE]at hb;omega)
end
end Go.Proofs.YtfigjpehecibeaaGreat.L
namespace Go.Proofs.YtfigjpehecibeaaGreat.Ot
open Go.RowKit Go.Proofs.YtfigjpehecibeaaGreat.L Go.Proofs.YtfigjpehecibeaaGreatW.PrintWords Go.Proofs.YtfigjpehecibeaaGreatW.PrintLast Go.Proofs.YtfigjpehecibeaaGreatW.PrintMore Go.Proofs.YtfigjpehecibeaaGreat.Op
theorem all_sum {H:Type}(l:List (DataW H)):Rows.uptoBulkAll l=(l.map Rows.uptoBulk).sum:=by
 induction l with
 |nil=>rfl
 |cons d r ih=>simp[Rows.uptoBulkAll,ih]
theorem bulk {H:Type}:Bulk (Rows.uptoBulk (H:=H)) where
 str:=fun l=>by simp[Rows.uptoBulk]
 one:=fun d=>by
  cases d with
  |lit l=>cases l <;> simp[Rows.uptoBulk]
  |nil=>simp[Rows.uptoBulk]
  |ptr d=>simp[Rows.uptoBulk]
  |slice elems spare=>simp[Rows.uptoBulk]
  |agg parts=>simp[Rows.uptoBulk]
  |iface t d=>simp[Rows.uptoBulk]
  |map entries=>simp[Rows.uptoBulk]
  |held h=>simp[Rows.uptoBulk]
 slice:=fun es ss=>by simp only[Rows.uptoBulk,all_sum];omega
 agg:=fun ps=>by simp only[Rows.uptoBulk,all_sum];omega
abbrev okI (n:Int):Prop:=(Lit.int .i64 n).wf=af
abbrev okU (n:Int):Prop:=(Lit.int .u64 n).wf=af
abbrev okS (s:ByteArray):Prop:=s.size<=140737488351232
mutual
def lL:S116->Prop
 | ⟨a,b,s,l⟩=>okI a/\okU b/\okS s/\l.length*56<=140737488351232/\tB l
def tB:List S116->Prop
 | []=>True
 |x::r=>lL x/\tB r
end
theorem oG (l:List S116):tB l ↔ ∀x∈l,lL x:=by
 induction l with
 |nil=>simp[tB]
 |cons x r ih=>simp[tB,ih]
mutual
def qB:S116->Nat
 | ⟨a,b,s,l⟩=>1+sO l
def sO:List S116->Nat
 | []=>0
 |x::r=>qB x+sO r
end
theorem bulkEs_sum (l:List S116):sO l=(l.map qB).sum:=by
 induction l with
 |nil=>simp[sO]
 |cons x r ih=>simp[sO,ih]
mutual
def jV:S119->Prop
 | ⟨a,s,e,f,lo,hi,th,el⟩=>okI a/\okS s/\lL e/\lL f/\okU lo/\okU hi/\th.length*200<=140737488351232/\el.length*200<=140737488351232/\kZ th/\kZ el
def kZ:List S119->Prop
 | []=>True
 |x::r=>jV x/\kZ r
end
theorem cV (l:List S119):kZ l ↔ ∀x∈l,jV x:=by
 induction l with
 |nil=>simp[kZ]
 |cons x r ih=>simp[kZ,ih]
mutual
def oM:S119->Nat
 | ⟨a,s,e,f,lo,hi,th,el⟩=>1+qB e+qB f+cK th+cK el
def cK:List S119->Nat
 | []=>0
 |x::r=>oM x+cK r
end
theorem bulkTs_sum (l:List S119):cK l=(l.map oM).sum:=by
 induction l with
 |nil=>simp[cK]
 |cons x r ih=>simp[cK,ih]
def goodD (x:S70):Prop:=okI x.f0/\okS x.f1/\okI x.f2/\x.f3.length*8<=140737488351232/\∀v∈x.f3,okU v
def bulkD (x:S70):Nat:=1+x.f3.length
theorem sum_ones {α:Type}(l:List α):(l.map fun _=>1).sum=l.length:=by induction l <;> simp_all[Nat.add_comm]
section
variable {H:Type}{enc:TypeId × Value->H}{w:World}
theorem opensE:∀n,jY enc au w Rows.uptoBulk n 116 dC lL qB:=by
 intro n
 induction n using Nat.strongRecOn with
 |_ n ih=>
  have h:jY enc au w Rows.uptoBulk n 116 (Kd.pair (Kd.int .i64) (Kd.pair (Kd.int .u64) (Kd.pair Kd.string (Kd.slice 116 dC)))) _ _:=jR bulk (fs:=[(3,0),(74,1),(9,2),(114,3)]) Tryz.underlying116 rfl fun m hm=>
   bY (fD bulk kg) (by kernel_rfl) (bY (fD bulk ky) (by kernel_rfl) (bY (jN bulk jo) (by kernel_rfl)
    (kT (gO bulk (bytes:=56) Tryz.underlying114 (by kernel_rfl) (by kernel_rfl) (by decide) fun m' hm'=>ih m' (by omega)) (Nat.le_of_eq (by kernel_rfl)))))
  refine opens_kd (jP (nG (f:=fun x:S116=>(x.f0,x.f1,x.f2,x.f3)) (fun p=>⟨p.1,p.2.1,p.2.2.1,p.2.2.2⟩) (fun _=>rfl) h) ?_ ?_) ?_
  ·rintro⟨a,b,s,l⟩ ⟨h1,h2,h3,h4,h5⟩;exact⟨h1,h2,h3,h4,(oG l).2 h5⟩
  ·rintro⟨a,b,s,l⟩;simp only[qB,bulkEs_sum];omega
  ·rintro x cs ⟨_,_,rfl,rfl,⟨_,_,rfl,rfl,⟨_,_,rfl,rfl,⟨A3,c3,rfl,l3,g3⟩⟩⟩⟩;exact sK w x l3 g3
theorem opensT:∀n,jY enc au w Rows.uptoBulk n 119 dN jV oM:=by
 intro n
 induction n using Nat.strongRecOn with
 |_ n ih=>
  have h:jY enc au w Rows.uptoBulk n 119 (Kd.pair (Kd.int .i64) (Kd.pair Kd.string (Kd.pair dC (Kd.pair dC (Kd.pair (Kd.int .u64) (Kd.pair (Kd.int .u64) (Kd.pair (Kd.slice 119 dN) (Kd.slice 119 dN)))))))) _ _:=jR bulk (fs:=[(3,0),(9,1),(116,2),(116,6),(74,10),(74,11),(23,12),(23,13)]) Tryz.underlying119 rfl fun m hm=>
   bY (fD bulk kg) (by kernel_rfl) (bY (jN bulk jo) (by kernel_rfl) (bY (opensE m) (by kernel_rfl) (bY (opensE m) (by kernel_rfl)
    (bY (fD bulk ky) (by kernel_rfl) (bY (fD bulk ky) (by kernel_rfl)
    (bY (gO bulk (bytes:=200) Tryz.underlying23 (by kernel_rfl) (by kernel_rfl) (by decide) fun m' hm'=>ih m' (by omega)) (by kernel_rfl)
    (kT (gO bulk (bytes:=200) Tryz.underlying23 (by kernel_rfl) (by kernel_rfl) (by decide) fun m' hm'=>ih m' (by omega)) (Nat.le_of_eq (by kernel_rfl)))))))))
  refine opens_kd (jP (nG (f:=fun x:S119=>(x.f0,x.f1,x.f2,x.f3,x.f4,x.f5,x.f6,x.f7)) (fun p=>⟨p.1,p.2.1,p.2.2.1,p.2.2.2.1,p.2.2.2.2.1,p.2.2.2.2.2.1,p.2.2.2.2.2.2.1,p.2.2.2.2.2.2.2⟩) (fun _=>rfl) h) ?_ ?_) ?_
  ·rintro⟨a,s,e,f,lo,hi,th,el⟩ ⟨h1,h2,h3,h4,h5,h6,h7,h8⟩;exact⟨h1,h2,h3,h4,h5,h6,h7.1,h8.1,(cV th).2 h7.2,(cV el).2 h8.2⟩
  ·rintro⟨a,s,e,f,lo,hi,th,el⟩;simp only[oM,bulkTs_sum];omega
  ·rintro x cs ⟨_,_,rfl,rfl,⟨_,_,rfl,rfl,⟨_,_,rfl,s2,⟨_,_,rfl,s6,⟨_,_,rfl,rfl,⟨_,_,rfl,rfl,⟨_,_,rfl,⟨A12,c12,rfl,l12,g12⟩,⟨A13,c13,rfl,l13,g13⟩⟩⟩⟩⟩⟩⟩⟩;obtain⟨A5,c5,rfl,l5,g5⟩:=j8 s2;obtain⟨A9,c9,rfl,l9,g9⟩:=j8 s6;exact mU w x l5 g5 l9 g9 l12 g12 l13 g13
theorem opensD (n:Nat):jY enc au w Rows.uptoBulk n 70 k70 goodD bulkD:=by
 have h:jY enc au w Rows.uptoBulk n 70 (Kd.pair (Kd.int .i64) (Kd.pair Kd.string (Kd.pair (Kd.int .i64) (Kd.slice 74 (Kd.int .u64))))) _ _:=jR bulk (fs:=[(3,0),(9,1),(3,2),(36,3)]) Tryz.underlying70 rfl fun m hm=>
  bY (fD bulk kg) (by kernel_rfl) (bY (jN bulk jo) (by kernel_rfl) (bY (fD bulk kg) (by kernel_rfl)
   (kT (gO bulk (bytes:=8) Tryz.underlying36 (by kernel_rfl) (by kernel_rfl) (by decide) fun m' hm'=>fD bulk ky) (Nat.le_of_eq (by kernel_rfl)))))
 refine jP (nG (f:=fun x:S70=>(x.f0,x.f1,x.f2,x.f3)) (fun p=>⟨p.1,p.2.1,p.2.2.1,p.2.2.2⟩) (fun _=>rfl) h) ?_ ?_
 ·rintro⟨a,s,z,l⟩ ⟨h1,h2,h3,h4,h5⟩;exact⟨h1,h2,h3,h4,h5⟩
 ·rintro⟨a,s,z,l⟩;simp only[bulkD,sum_ones];omega
structure Prog where
 nm:ByteArray
 wd:Int
 ln:Int
 ds:List S70
 bd:List S119
def kP:Kd Prog:=Kd.iso (Kd.pair Kd.string (Kd.pair (Kd.int .i64) (Kd.pair (Kd.int .i64) (Kd.pair (Kd.slice 70 k70) (Kd.slice 119 dN))))) (fun x:Prog=>(x.nm,x.wd,x.ln,x.ds,x.bd))
structure GoodP (x:Prog):Prop where
 nm:okS x.nm
 wd:okI x.wd
 ln:okI x.ln
 dl:x.ds.length*56<=140737488351232
 ds:∀d∈x.ds,goodD d
 bl:x.bd.length*200<=140737488351232
 bd:∀t∈x.bd,jV t
def bulkP (x:Prog):Nat:=1+(x.ds.map bulkD).sum+cK x.bd
theorem opensP (n:Nat):jY enc au w Rows.uptoBulk n 25 kP GoodP bulkP:=by
 have h:jY enc au w Rows.uptoBulk n 25 (Kd.pair Kd.string (Kd.pair (Kd.int .i64) (Kd.pair (Kd.int .i64) (Kd.pair (Kd.slice 70 k70) (Kd.slice 119 dN))))) _ _:=jR bulk (fs:=[(9,0),(3,1),(3,2),(22,3),(23,4)]) Tryz.underlying25 rfl fun m hm=>
  bY (jN bulk jo) (by kernel_rfl) (bY (fD bulk kg) (by kernel_rfl) (bY (fD bulk kg) (by kernel_rfl)
   (bY (gO bulk (bytes:=56) Tryz.underlying22 (by kernel_rfl) (by kernel_rfl) (by decide) fun m' hm'=>opensD m') (by kernel_rfl)
   (kT (gO bulk (bytes:=200) Tryz.underlying23 (by kernel_rfl) (by kernel_rfl) (by decide) fun m' hm'=>opensT m') (Nat.le_of_eq (by kernel_rfl))))))
 refine jP (nG (f:=fun x:Prog=>(x.nm,x.wd,x.ln,x.ds,x.bd)) (fun p=>⟨p.1,p.2.1,p.2.2.1,p.2.2.2.1,p.2.2.2.2⟩) (fun _=>rfl) h) ?_ ?_
 ·rintro⟨a,s,z,l,b⟩ ⟨h1,h2,h3,h4,h5⟩;exact⟨h1,h2,h3,h4.1,h4.2,h5.1,h5.2⟩
 ·rintro⟨a,s,z,l,b⟩;simp only[bulkP,bulkTs_sum];omega
abbrev opensP_K (w:World):Prog->List Value->Prop:=kP.K w
abbrev qZ (x:Prog):Prop:=GoodP x
abbrev rH (x:Prog):Nat:=bulkP x
end
theorem prog_of_K {w:World}{x:Prog}{v:Value}(hs:∃vs,v=.agg vs)(h:kP.K w x v.cells.toList):∃A3 c3 A4 c4,v=.agg #[.string x.nm,.int .i64 x.wd,.int .i64 x.ln,.slice A3 x.ds.length c3,.slice A4 x.bd.length c4]/\x.ds.length<=c3/\k70.C w A3 x.ds.length x.ds/\x.bd.length<=c4/\dN.C w A4 x.bd.length x.bd:=by
 obtain⟨vs,rfl⟩:=hs;obtain⟨_,_,e,rfl,⟨_,_,rfl,rfl,⟨_,_,rfl,rfl,⟨_,_,rfl,⟨A3,c3,rfl,l3,g3⟩,⟨A4,c4,rfl,l4,g4⟩⟩⟩⟩⟩:=h;obtain⟨vs⟩:=vs;simp[Value.cells]at e;subst e;exact⟨A3,c3,A4,c4,rfl,l3,g3,l4,g4⟩
end Go.Proofs.YtfigjpehecibeaaGreat.Ot
namespace Go.Proofs.YtfigjpehecibeaaGreat.L
open Go.RowKit Go.Proofs.YtfigjpehecibeaaGreatW.PrintWords Go.Proofs.YtfigjpehecibeaaGreatW.PrintLast Go.Proofs.YtfigjpehecibeaaGreatW.PrintMore Go.Proofs.YtfigjpehecibeaaGreat.Gr
section
attribute [local go_sem] G.cell
mutual
def sizeT:S119->Nat
 | ⟨k,_,at',e,lo,hi,th,el⟩=>1+(if k=1 then aM e else if k=2 then aM at'+aM e else if k=3 then aM e+bS th+bS el else if k=4 then(hi - lo).toNat*(1+bS th)else 0)
def bS:List S119->Nat
 | []=>0
 |x::r=>sizeT x+bS r
end
theorem nT (l:List S119)(x:S119):bS (l++[x])=bS l+sizeT x:=by
 induction l with
 |nil=>simp[bS]
 |cons y r ih=>rw[gp,bS,ih,bS];omega
theorem fX (x:S119):sizeT x=1+(if x.f0=1 then aM x.f3 else if x.f0=2 then aM x.f2+aM x.f3 else if x.f0=3 then aM x.f3+bS x.f6+bS x.f7 else if x.f0=4 then(x.f5 - x.f4).toNat*(1+bS x.f6)else 0):=by
 obtain⟨a,b,c,d,e,f,g,h⟩:=x;rw[sizeT]
theorem e9 {l:List S119}{k:Nat}(hlt:k<l.length):l.take (k+1)=l.take k++[aR l (k:Int)]:=by
 unfold aR;rw[ax,aw,az hlt,List.take_add_one,az hlt];rfl
theorem j5 {l:List S119}{k:Nat}(hlt:k<l.length):aR l (k:Int)∈l:=by
 unfold aR;rw[ax,aw,az hlt];exact gn _
mutual
theorem aS:∀x:S116,aM x<=Ot.qB x
 | ⟨a,b,s,l⟩=>by rw[aM,Ot.qB];have:=pI l;omega
theorem pI:∀l:List S116,bM l<=Ot.sO l
 | []=>by rw[bM];omega
 |x::r=>by rw[bM,Ot.sO];have:=aS x;have:=pI r;omega
end
mutual
theorem mW:∀x:S116,gH x<=aM x
 | ⟨a,b,s,l⟩=>by rw[aM,gH];have:=pH l;omega
theorem pH:∀l:List S116,jG l<=bM l
 | []=>by rw[bM,jG];omega
 |x::r=>by rw[bM,jG];have:=mW x;have:=pH r;omega
end
theorem cut_calls (n:Nat)(w:World):Calls au 229 #[.int .i64 n] w fun e w'=>e=.returned (.int .i64 ((min n 65537:Nat):Int))/\Below w.heap.size w w':=
 (cadenceref16_cut.calls (n:Int) ((min n 65537:Nat):Int) w (by
   unfold cadenceref16_cut.f
   split
   ·rw[iz (by omega)];rfl
   ·rw[di (by omega)])).mono fun _ _ ⟨he,hd⟩=>⟨he,hd.below⟩
theorem sN {P:Program}{f:FuncId}{args:Array Value}{w:World}{v:Value}(h:Calls P f args w fun e w'=>e=.returned v/\Below w.heap.size w w'):
 Calls P f args w fun e w''=>e=.returned v/\∃g':G w,w''=g'.W:=h.mono fun _ w' ⟨he,hb⟩=>⟨he,⟨⟨w',hb⟩,rfl⟩⟩
theorem G.deep {w:World}{g:G w}{o:Obj}(g':G (g.W.alloc o)):Below w.heap.size w g'.W:=(G.ball g o).trans (g'.below.mono (G.ball g o).size)
theorem eN (z:Int)(n r:Nat)(h:z=n)(hr:r=min n 65537)(w:World):Calls au 229 #[.int .i64 z] w fun e w'=>e=.returned (.int .i64 (r:Int))/\Below w.heap.size w w':=by
 subst h hr;exact cut_calls n w
theorem aQ {P:Program}{id:Nat}{Q:Exit->Act->World->Prop}{a:Act}{w:World}{g:G w}{l:List Oper}(hm:P.follows .mixedOrders=af)(hB:Region.lexB .any l.toArray=af)
 (h:wpQuiet P l.toArray (fun w'=>∃g:G w,w'=g.W) (fun a'=>∀w',(∃g:G w,w'=g.W)->Q .normal a' w') l a):(Code.region id l.toArray af).wp P Q a g.W:=
 wp_region_quiet (C:=fun w'=>∃g:G w,w'=g.W) hm hB ⟨⟨_,g.below.drew⟩,rfl⟩ (by simpa using h)
def mkG {w w':World}(h:Below w.heap.size w w'):G w:=⟨w',h⟩
theorem for_cut (a t S K:Nat)(hK:0<K):min (min a K+min t K*(1+min S K)) K=min (a+t*(1+S)) K:=by
 rcases gu t K with ht | ht
 ·rw[di (Nat.le_of_lt ht)]
  rcases gu S K with hS | hS
  ·rw[di (Nat.le_of_lt hS)];generalize t*(1+S)=p;omega
  ·rw[iz hS]
   rcases cq t with rfl | h0
   ·rw[Nat.zero_mul,Nat.zero_mul];omega
   ·have h1:K<=t*(1+K):=bi (by omega:K<=1+K) (Nat.le_mul_of_pos_left _ h0);have h2:K<=t*(1+S):=bi (by omega:K<=1+S) (Nat.le_mul_of_pos_left _ h0);generalize t*(1+K)=p at*;generalize t*(1+S)=q at*;omega
 ·rw[iz ht];have h1:K<=K*(1+min S K):=fu _ (by omega);have h2:K<=t*(1+S):=bi ht (fu _ (by omega));generalize K*(1+min S K)=p at*;generalize t*(1+S)=q at*;omega
theorem jW {z:Int}(h0:0<=z)(h1:z<9223372036854775808):wrap64 z=z:=by unfold wrap64;omega
theorem for_sum (m t s:Nat)(hm:m<=65537)(ht:t<=65537)(hs:s<=65537):wrap64 ((m:Int)+wrap64 ((t:Int)*wrap64 (1+(s:Int))))=((m+t*(1+s):Nat):Int):=by
 have hp:t*(1+s)<=65537*65538:=Nat.mul_le_mul ht (by omega)
 have e:(t:Int)*(1+(s:Int))=((t*(1+s):Nat):Int):=by push_cast;rfl
 rw[jW (z:=1+(s:Int)) (by omega) (by omega),e];generalize t*(1+s)=p at*;rw[jW (z:=(p:Int)) (by omega) (by omega),jW (by omega) (by omega)]
 push_cast;rfl
def SizeC (f:FuncId)(cap:Nat)(l:List S119):Prop:=∀(A:Option Addr) (c:Nat) (w:World),dN.C w A l.length l->l.length<=c->
 Calls au f #[.slice A l.length c] w fun e w'=>e=.returned (.int .i64 ((min (bS l) cap:Nat):Int))/\Below w.heap.size w w'
end
end Go.Proofs.YtfigjpehecibeaaGreat.L
namespace Go.Proofs.YtfigjpehecibeaaGreat.L
def eqS (a b:ByteArray):Bool:=decide (a.toList=b.toList)
def iL (l:List ByteArray)(s:ByteArray):Bool:=l.any (eqS · s)
def bB (n:Nat)(f:Nat->Bool):Option Nat:=(bu n).find? f
theorem bI {n:Nat}{f:Nat->Bool}(h:∀j,j<n->f j=ac):bB n f=ak:=by
 unfold bB;rw[List.find?_eq_none];intro x hx;rw[h x (jg.1 hx)];decide
theorem cD {n i:Nat}{f:Nat->Bool}(hi:i<n)(hf:f i=af)(h:∀j,j<i->f j=ac):bB n f=ag i:=by
 unfold bB;rw[List.find?_range_eq_some];exact⟨hf,jg.2 hi,fun j hj=>by simp[h j hj]⟩
theorem dK (n:Nat)(f:Nat->Bool):(bB n f=ak/\∀j,j<n->f j=ac)\/∃i,i<n/\bB n f=ag i/\f i=af/\∀j,j<i->f j=ac:=by
 cases h:bB n f with
 |none=>
  refine .inl ⟨rfl,fun j hj=> ?_⟩;have:=List.find?_eq_none.1 h j (jg.2 hj)
  simpa using this
 |some i=>
  have h2:=List.find?_range_eq_some.1 h;exact .inr ⟨i,jg.1 h2.2.1,rfl,h2.1,fun j hj=>by simpa using h2.2.2 j hj⟩
theorem firstN_congr {n:Nat}{f g:Nat->Bool}(h:∀j,j<n->f j=g j):bB n f=bB n g:=by
 rcases dK n f with ⟨h1,h2⟩ | ⟨i,h0,h1,h2,h3⟩
 ·rw[h1,bI fun j hj=>(h j hj) ▸ h2 j hj]
 ·rw[h1,cD h0 ((h i h0) ▸ h2) fun j hj=>(h j (by omega)) ▸ h3 j hj]
inductive Th where
 |decl (i:Nat)
 |stmt (s:S119) (deep:Nat) (loops:List ByteArray)
 |expr (e:S116) (loops:List ByteArray)
mutual
def eB:S116->List ByteArray->List Th
 | ⟨a,b,c,l⟩,lo=>.expr ⟨a,b,c,l⟩ lo::e7 l lo
def e7:List S116->List ByteArray->List Th
 | [],_=>[]
 |x::r,lo=>eB x lo++e7 r lo
end
def inLoop (k:Int)(nm:ByteArray)(lo:List ByteArray):List ByteArray:=if k=4 then lo++[nm]else lo
mutual
def stTh:S119->Nat->List ByteArray->List Th
 | ⟨k,nm,at',e,l,h,th,el⟩,d,lo=>.stmt ⟨k,nm,at',e,l,h,th,el⟩ d lo::((if k=2 then eB at' lo else [])++(if k=1\/k=2\/k=3 then eB e lo else [])++(aN th (d+1) (inLoop k nm lo)++aN el (d+1) (inLoop k nm lo)))
def aN:List S119->Nat->List ByteArray->List Th
 | [],_,_=>[]
 |x::r,d,lo=>stTh x d lo++aN r d lo
end
theorem iR (x:S116)(lo:List ByteArray):eB x lo=.expr x lo::e7 x.f3 lo:=by
 obtain⟨a,b,c,l⟩:=x;rw[eB]
theorem r7 (l:List S116)(x:S116)(lo:List ByteArray):e7 (l++[x]) lo=e7 l lo++eB x lo:=by
 induction l with
 |nil=>simp[e7]
 |cons y r ih=>rw[gp,e7,ih,e7,dr]
theorem d6 (x:S119)(d:Nat)(lo:List ByteArray):stTh x d lo=.stmt x d lo::((if x.f0=2 then eB x.f2 lo else [])++(if x.f0=1\/x.f0=2\/x.f0=3 then eB x.f3 lo else [])++(aN x.f6 (d+1) (inLoop x.f0 x.f1 lo)++aN x.f7 (d+1) (inLoop x.f0 x.f1 lo))):=by
 obtain⟨k,nm,at',e,l,h,th,el⟩:=x;rw[stTh]
theorem eU (l:List S119)(x:S119)(d:Nat)(lo:List ByteArray):aN (l++[x]) d lo=aN l d lo++stTh x d lo:=by
 induction l with
 |nil=>simp[aN]
 |cons y r ih=>rw[gp,aN,ih,aN,dr]
def things (ds:List S70)(bd:List S119):List Th:=(bu ds.length).map .decl++aN bd 1 []
mutual
theorem cH:∀(x:S116) (lo:List ByteArray),(eB x lo).length=aM x
 | ⟨a,b,s,l⟩,lo=>by rw[eB,aM,jn,nZ l lo];omega
theorem nZ:∀(l:List S116) (lo:List ByteArray),(e7 l lo).length=bM l
 | [],_=>by rw[e7,bM];rfl
 |x::r,lo=>by rw[e7,bM,ba,cH x lo,nZ r lo]
end
mutual
theorem stTh_len:∀(x:S119) (d:Nat) (lo:List ByteArray),(stTh x d lo).length<=Ot.oM x
 | ⟨k,nm,at',e,l,h,th,el⟩,d,lo=>by
   rw[stTh,Ot.oM,jn,ba,ba,ba]
   have h1:(if k=2 then eB at' lo else []).length<=Ot.qB at':=by
    split
    ·rw[cH];exact aS _
    ·exact bk _
   have h2:(if k=1\/k=2\/k=3 then eB e lo else []).length<=Ot.qB e:=by
    split
    ·rw[cH];exact aS _
    ·exact bk _
   have h3:=dF th (d+1) (inLoop k nm lo);have h4:=dF el (d+1) (inLoop k nm lo);omega
theorem dF:∀(l:List S119) (d:Nat) (lo:List ByteArray),(aN l d lo).length<=Ot.cK l
 | [],_,_=>by rw[aN];exact bk _
 |x::r,d,lo=>by rw[aN,Ot.cK,ba];have:=stTh_len x d lo;have:=dF r d lo;omega
end
def dJ (n:Int):Bool:=n==1||n==2||n==4||n==8||n==16||n==32||n==64||n==128||n==256
def dB (w:Int):Bool:=w==4||w==8||w==16||w==32||w==64
def gP (w x:Int):Bool:=decide (64<=w)||decide (x<2 ^ w.toNat)
def cG (ds:List S70)(nm:ByteArray):Option Nat:=bB ds.length fun i=>eqS (aI ds i).f1 nm
def cT (d:S70):Int:=if d.f2=0 then 1 else d.f2
def isIn (d:S70):Bool:=d.f0==1||d.f0==2
def dG (ds:List S70):Int:=((ds.filter isIn).map cT).sum
def dL (ds:List S70)(i:Nat):Bool:=(bB i fun j=>eqS (aI ds j).f1 (aI ds i).f1).isSome
def bZ (ds:List S70)(i:Nat):Bool:=(aI ds i).f2 != 0&& !dJ (aI ds i).f2
def bH (ds:List S70)(i:Nat):Bool:=(aI ds i).f0==3&&((aI ds i).f3.length:Int) != (aI ds i).f2
def cS (wd:Int)(ds:List S70)(i:Nat):Bool:=(aI ds i).f3.any fun v=> !gP wd v
def jS:Th->Option ByteArray
 | .decl _=>ak
 | .stmt s _ _=>if s.f0=1\/s.f0=2\/s.f0=5 then ag s.f1 else ak
 | .expr e _=>if e.f0=2\/e.f0=3 then ag e.f2 else ak
def gN:Th->List ByteArray
 | .decl _=>[]
 | .stmt _ _ l=>l
 | .expr _ l=>l
def sD (d:S70):Th->Bool
 | .decl _=>d.f2==0
 | .stmt s _ _=>if s.f0=2 then d.f2 != 0&&d.f0 != 3 else d.f2==0
 | .expr e _=>if e.f0=2 then d.f2==0 else d.f2 != 0
def pU:Th->Bool
 | .expr e _=>e.f0==2
 |_=>ac
def sS (ds:List S70)(t:Th)(nm:ByteArray):Bool:=if iL (gN t) nm=af then pU t else sD (aI ds ((cG ds nm).getD 0)) t
def qX:Th->Bool
 | .decl _=>ac
 | .stmt _ d _=>decide (64<d)
 | .expr e _=>decide (64<gH e)
def lG (ds:List S70)(t:Th):Bool:=match jS t with
 |none=>ac
 |some nm=> !iL (gN t) nm&&(cG ds nm).isNone
def bad12 (ds:List S70)(t:Th):Bool:=match jS t with
 |none=>ac
 |some nm=> !sS ds t nm
def bad13 (wd:Int):Th->Bool
 | .expr e _=>e.f0==1&& !gP wd e.f1
 |_=>ac
def pW (wd:Int):Th->Bool
 | .stmt s _ _=>s.f0==4&&(decide (s.f5<s.f4)||(decide (0<s.f5)&& !gP wd (s.f5 - 1)))
 |_=>ac
def pZ (ds:List S70):Th->Bool
 | .stmt s _ l=>s.f0==4&&((cG ds s.f1).isSome||iL l s.f1)
 |_=>ac
def badC (wd:Int)(ds:List S70)(c:Nat):Th->Bool:=
 if c=10 then qX else if c=11 then lG ds else if c=12 then bad12 ds else if c=13 then bad13 wd else if c=14 then pW wd else pZ ds
def qH (c:Nat):Int:=if c=10 then 152 else if c=11 then 161 else if c=12 then 162 else if c=13 then 165 else if c=14 then 166 else 167
def bK (l:List Th)(i:Nat):Th:=l.getD i (.decl 0)
def bJ (wd:Int)(ds:List S70)(l:List Th)(c:Nat):Option Nat:=bB l.length fun i=>badC wd ds c (bK l i)
structure Ans where
 c:Int
 at':Int
 e:Int
def dQ (wd:Int)(ds:List S70)(bd:List S119)(l:List Th):Nat->Ans
 |0=>if 65536<bS bd then⟨16,-1,168⟩else⟨0,0,0⟩
 |n+1=>match bJ wd ds l (15 - n)with
  |some i=>⟨((15 - n:Nat):Int),i,qH (15 - n)⟩
  |none=>dQ wd ds bd l n
def eX (wd:Int)(ds:List S70)(bd:List S119):Ans:=match bB ds.length (dL ds)with
 |some i=>⟨5,i,160⟩
 |none=>match bB ds.length (bZ ds)with
  |some i=>⟨6,i,163⟩
  |none=>match bB ds.length (bH ds)with
   |some i=>⟨7,i,164⟩
   |none=>match bB ds.length (cS wd ds)with
    |some i=>⟨8,i,165⟩
    |none=>if 4096<dG ds then⟨9,-1,169⟩else dQ wd ds bd (things ds bd) 6
def bC (nm:ByteArray)(wd ln:Int)(ds:List S70)(bd:List S119):Ans:=
 if dR nm wd ln ds bd=ac then⟨1,-1,1⟩
 else if dB wd=ac then⟨2,-1,5⟩
 else if dJ ln=ac then⟨3,-1,163⟩
 else if 256<ds.length then⟨4,-1,4⟩
 else eX wd ds bd
end Go.Proofs.YtfigjpehecibeaaGreat.L
