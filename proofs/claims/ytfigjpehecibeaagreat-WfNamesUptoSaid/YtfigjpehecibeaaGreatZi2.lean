/- Texts joined by a program of mine: LsA5 LsBlt LsBgt LsB1 LsB2 LsB3 LsB4 LsB5 Lg Lh Li Lm Lk Ln Lo Ot Lp Ws Wk Wp Wq Wh Wd Wg. -/
import Derived.Test.YtfigjpehecibeaaGreatRows
import Derived.Test.YtfigjpehecibeaaGreatZi1
set_option maxRecDepth 100000
open And renaming intro -> aq
open Bool renaming true -> ac, false -> O, and_eq_true -> dg
open ByteArray renaming empty -> ba
open Go.Proofs.Tryz renaming prog -> au, underlying3 -> gb
open Go.Proofs.YtfigjpehecibeaaGreatW.PrintWords.Aside0 renaming mk -> J
open Go.Proofs.YtfigjpehecibeaaGreatW.PrintWords.Drawn0 renaming refl -> dh, step -> di
open Go.RowKit.Below renaming refl -> ak
open Go.World renaming block_lt_of_cell? -> ah
open Int renaming lt_or_le -> dq, toNat_natCast -> ax, natCast_nonneg -> bc
open List renaming eq_nil_of_length_eq_zero -> bk, isEmpty_eq_false_iff -> bv, isEmpty_iff -> dx, sizeOf_lt_of_mem -> fe, getD_eq_getElem?_getD -> aw, getElem?_eq_getElem -> av, getElem_mem -> dz, all_eq_true -> ew, getElem_of_mem -> ef, cons_append -> fc, mem_cons -> cg, take_length -> df, drop_eq_nil_of_le -> gr, drop_eq_getElem_cons -> dw, getElem?_eq_some_iff -> cz, range -> cr, mem_range -> gq, append_assoc -> bh, length_append -> ar, map_append -> cw, mem_append -> bo
open Nat renaming le_refl -> ai, eq_zero_or_pos -> bu, zero_le -> br, not_lt_zero -> dn, lt_or_ge -> gh, add_zero -> fg, le_trans -> bg, lt_of_lt_of_le -> ee
open Option renaming none -> aj, some -> ae
open Option.some renaming inj -> cn
open Or renaming inl -> bi
open SizeOf renaming sizeOf -> cu
set_option linter.unusedVariables false
set_option linter.unusedSimpArgs false
set_option maxHeartbeats 8000000
namespace Go.Proofs.YtfigjpehecibeaaGreat.L
open Go.RowKit Go.Proofs.YtfigjpehecibeaaGreatW.PrintWords Go.Proofs.YtfigjpehecibeaaGreatW.PrintLast Go.Proofs.YtfigjpehecibeaaGreatW.PrintMore Go.Proofs.YtfigjpehecibeaaGreat.Gr
section
attribute [local go_sem] G.cell
theorem stmtForm_k5 (b:ByteArray)(cc d:S116)(e f:Int)(g hh:List S119){A5:Option Addr}{c5:Nat}{A9:Option Addr}{c9:Nat}{A12:Option Addr}{c12:Nat}{A13:Option Addr}{c13:Nat}(w:World)
 (L:Aside0 (cc.f3.length<=c5/\d.f3.length<=c9/\g.length<=c12/\hh.length<=c13)) (H:Aside0 (cH.C w A5 cc.f3.length cc.f3/\cH.C w A9 d.f3.length d.f3/\cU.C w A12 g.length g/\cU.C w A13 hh.length hh))
 (IH:Aside0 (∀l,l=g\/l=hh->fZ 121 l)):
 Calls au 168 #[.agg #[.int .i64 5,.string b,.int .i64 cc.f0,.int .u64 cc.f1,.string cc.f2,.slice A5 cc.f3.length c5,.int .i64 d.f0,.int .u64 d.f1,.string d.f2,.slice A9 d.f3.length c9,.int .u64 e,.int .u64 f,.slice A12 g.length c12,.slice A13 hh.length c13]] w fun e' w'=>e'=.returned (.bool (aS ⟨5,b,cc,d,e,f,g,hh⟩&&bdB g&&bdB hh))/\Below w.heap.size w w':=by
 have gout:=@gA w;go_enter Tryz.func168,Tryz.ntmps168
 go_upto_region 1 with (fail)
 refine bE (by kernel_rfl) (by kernel_rfl) ?_
 repeat go_big_quiet_step (fail)
 refine wpQuiet_nil ?_;rintro _ ⟨gg,rfl⟩;go_wp2_with fail
 rcases aH (bM b)with hh8 | hh8
 ·refine(aC (g:=gg) (dZ hh8 gg.W)).mono ?_;rintro _ _ ⟨rfl,gg,rfl⟩;go_wp2_with fail
  rcases aH (fR cc)with hh7 | hh7
  ·refine(aC (g:=gg) (gH hh7 _ _ gg.W (Kd.aF H.out.1 (gout gg)) L.out.1)).mono ?_;rintro _ _ ⟨rfl,gg,rfl⟩;go_wp2_with fail
   rcases aH (fR d)with hh6 | hh6
   ·refine(aC (g:=gg) (gH hh6 _ _ gg.W (Kd.aF H.out.2.1 (gout gg)) L.out.2.1)).mono ?_;rintro _ _ ⟨rfl,gg,rfl⟩
    rcases aH (e != 0)with hh5 | hh5
    ·have he5:¬e=0:=by simpa using hh5
     go_wp2_with fail;go_ret;exact⟨aA (by simp[aS,hh8,hh7,hh6,he5]),gout _⟩
    ·have he5:e=0:=by simpa using hh5
     rcases aH (f != 0)with hh4 | hh4
     ·have he4:¬f=0:=by simpa using hh4
      go_wp2_with fail;go_ret;exact⟨aA (by simp[aS,hh8,hh7,hh6,he5,he4]),gout _⟩
     ·have he4:f=0:=by simpa using hh4
      rcases bu g.length with hh3 | hh3
      ·have he3:g.isEmpty=ac:=by rw[bk hh3];rfl
       have hn3:¬0<g.length:=by omega
       have hm3:decide (0<g.length)=O:=decide_eq_false hn3;clear hh3
       rcases bu hh.length with hh2 | hh2
       ·have he2:hh.isEmpty=ac:=by rw[bk hh2];rfl
        have hn2:¬0<hh.length:=by omega
        have hm2:decide (0<hh.length)=O:=decide_eq_false hn2;clear hh2;go_wp2_with fail
        rcases aH (bdB g)with hh1 | hh1
        ·refine(aC (g:=gg) (bK (IH.out _ (bi rfl)) hh1 _ _ gg.W (Kd.aF H.out.2.2.1 (gout gg)) L.out.2.2.1)).mono ?_;rintro _ _ ⟨rfl,gg,rfl⟩;go_wp2_with fail
         rcases aH (bdB hh)with hh0 | hh0
         ·refine(aC (g:=gg) (bK (IH.out _ (Or.inr rfl)) hh0 _ _ gg.W (Kd.aF H.out.2.2.2 (gout gg)) L.out.2.2.2)).mono ?_;rintro _ _ ⟨rfl,gg,rfl⟩;go_wp2_with fail;go_ret;exact⟨aA (by simp[aS,hh8,hh7,hh6,he5,he4,he3,he2,hh1,hh0]),gout _⟩
         ·refine(aC (g:=gg) (bK (IH.out _ (Or.inr rfl)) hh0 _ _ gg.W (Kd.aF H.out.2.2.2 (gout gg)) L.out.2.2.2)).mono ?_;rintro _ _ ⟨rfl,gg,rfl⟩;go_wp2_with fail;go_ret;exact⟨aA (by simp[aS,hh8,hh7,hh6,he5,he4,he3,he2,hh1,hh0]),gout _⟩
        ·refine(aC (g:=gg) (bK (IH.out _ (bi rfl)) hh1 _ _ gg.W (Kd.aF H.out.2.2.1 (gout gg)) L.out.2.2.1)).mono ?_;rintro _ _ ⟨rfl,gg,rfl⟩;go_wp2_with fail;go_ret;exact⟨aA (by simp[aS,hh8,hh7,hh6,he5,he4,he3,he2,hh1]),gout _⟩
       ·have he2:hh.isEmpty=O:=by rw[bv];rintro rfl;exact absurd hh2 (by simp)
        go_wp2_with fail;go_ret;exact⟨aA (by simp[aS,hh8,hh7,hh6,he5,he4,he3,he2]),gout _⟩
      ·have he3:g.isEmpty=O:=by rw[bv];rintro rfl;exact absurd hh3 (by simp)
       go_wp2_with fail;go_ret;exact⟨aA (by simp[aS,hh8,hh7,hh6,he5,he4,he3]),gout _⟩
   ·refine(aC (g:=gg) (gH hh6 _ _ gg.W (Kd.aF H.out.2.1 (gout gg)) L.out.2.1)).mono ?_;rintro _ _ ⟨rfl,gg,rfl⟩;go_wp2_with fail;go_ret;exact⟨aA (by simp[aS,hh8,hh7,hh6]),gout _⟩
  ·refine(aC (g:=gg) (gH hh7 _ _ gg.W (Kd.aF H.out.1 (gout gg)) L.out.1)).mono ?_;rintro _ _ ⟨rfl,gg,rfl⟩;go_wp2_with fail;go_ret;exact⟨aA (by simp[aS,hh8,hh7]),gout _⟩
 ·refine(aC (g:=gg) (dZ hh8 gg.W)).mono ?_;rintro _ _ ⟨rfl,gg,rfl⟩;go_wp2_with fail;go_ret;exact⟨aA (by simp[aS,hh8]),gout _⟩
end
section
attribute [local go_sem] G.cell
theorem kW (a:Int)(h1:a<1)(b:ByteArray)(cc d:S116)(e f:Int)(g hh:List S119){A5:Option Addr}{c5:Nat}{A9:Option Addr}{c9:Nat}{A12:Option Addr}{c12:Nat}{A13:Option Addr}{c13:Nat}(w:World)
 (L:Aside0 (cc.f3.length<=c5/\d.f3.length<=c9/\g.length<=c12/\hh.length<=c13)) (H:Aside0 (cH.C w A5 cc.f3.length cc.f3/\cH.C w A9 d.f3.length d.f3/\cU.C w A12 g.length g/\cU.C w A13 hh.length hh))
 (IH:Aside0 (∀l,l=g\/l=hh->fZ 126 l)):
 Calls au 172 #[.agg #[.int .i64 a,.string b,.int .i64 cc.f0,.int .u64 cc.f1,.string cc.f2,.slice A5 cc.f3.length c5,.int .i64 d.f0,.int .u64 d.f1,.string d.f2,.slice A9 d.f3.length c9,.int .u64 e,.int .u64 f,.slice A12 g.length c12,.slice A13 hh.length c13]] w fun e' w'=>e'=.returned (.bool (aS ⟨a,b,cc,d,e,f,g,hh⟩&&bdB g&&bdB hh))/\Below w.heap.size w w':=by
 have gout:=@gA w
 have h0:aS ⟨a,b,cc,d,e,f,g,hh⟩=O:=by simp[aS];omega
 rw[h0]
 have e2:(a==2)=O:=by simp;omega
 have e3:(a==3)=O:=by simp;omega
 have e4:(a==4)=O:=by simp;omega
 clear h0;go_enter Tryz.func172,Tryz.ntmps172
 go_upto_region 1 with (fail)
 refine bQ ?_;intro gg;go_wp2_with fail;go_ret;exact⟨aA (by simp),gout _⟩
end
section
attribute [local go_sem] G.cell
theorem lN (a:Int)(h1:¬a<1)(h2:a > 5)(b:ByteArray)(cc d:S116)(e f:Int)(g hh:List S119){A5:Option Addr}{c5:Nat}{A9:Option Addr}{c9:Nat}{A12:Option Addr}{c12:Nat}{A13:Option Addr}{c13:Nat}(w:World)
 (L:Aside0 (cc.f3.length<=c5/\d.f3.length<=c9/\g.length<=c12/\hh.length<=c13)) (H:Aside0 (cH.C w A5 cc.f3.length cc.f3/\cH.C w A9 d.f3.length d.f3/\cU.C w A12 g.length g/\cU.C w A13 hh.length hh))
 (IH:Aside0 (∀l,l=g\/l=hh->fZ 126 l)):
 Calls au 172 #[.agg #[.int .i64 a,.string b,.int .i64 cc.f0,.int .u64 cc.f1,.string cc.f2,.slice A5 cc.f3.length c5,.int .i64 d.f0,.int .u64 d.f1,.string d.f2,.slice A9 d.f3.length c9,.int .u64 e,.int .u64 f,.slice A12 g.length c12,.slice A13 hh.length c13]] w fun e' w'=>e'=.returned (.bool (aS ⟨a,b,cc,d,e,f,g,hh⟩&&bdB g&&bdB hh))/\Below w.heap.size w w':=by
 have gout:=@gA w
 have h0:aS ⟨a,b,cc,d,e,f,g,hh⟩=O:=by simp[aS];omega
 rw[h0]
 have e2:(a==2)=O:=by simp;omega
 have e3:(a==3)=O:=by simp;omega
 have e4:(a==4)=O:=by simp;omega
 clear h0;go_enter Tryz.func172,Tryz.ntmps172
 go_upto_region 1 with (fail)
 refine bQ ?_;intro gg;go_wp2_with fail;go_ret;exact⟨aA (by simp),gout _⟩
end
section
attribute [local go_sem] G.cell
theorem refStmtForm_k1 (b:ByteArray)(cc d:S116)(e f:Int)(g hh:List S119){A5:Option Addr}{c5:Nat}{A9:Option Addr}{c9:Nat}{A12:Option Addr}{c12:Nat}{A13:Option Addr}{c13:Nat}(w:World)
 (L:Aside0 (cc.f3.length<=c5/\d.f3.length<=c9/\g.length<=c12/\hh.length<=c13)) (H:Aside0 (cH.C w A5 cc.f3.length cc.f3/\cH.C w A9 d.f3.length d.f3/\cU.C w A12 g.length g/\cU.C w A13 hh.length hh))
 (IH:Aside0 (∀l,l=g\/l=hh->fZ 126 l)):
 Calls au 172 #[.agg #[.int .i64 1,.string b,.int .i64 cc.f0,.int .u64 cc.f1,.string cc.f2,.slice A5 cc.f3.length c5,.int .i64 d.f0,.int .u64 d.f1,.string d.f2,.slice A9 d.f3.length c9,.int .u64 e,.int .u64 f,.slice A12 g.length c12,.slice A13 hh.length c13]] w fun e' w'=>e'=.returned (.bool (aS ⟨1,b,cc,d,e,f,g,hh⟩&&bdB g&&bdB hh))/\Below w.heap.size w w':=by
 have gout:=@gA w;go_enter Tryz.func172,Tryz.ntmps172
 go_upto_region 1 with (fail)
 refine bQ ?_;intro gg
 rcases aH b.toList.isEmpty with hh9 | hh9
 ·have he9:b.toList=[]:=by exact dx.1 hh9
  have hf9:=fU he9;go_wp2_with fail;go_ret;exact⟨aA (by simp[aS,hf9]),gout _⟩
 ·have he9:¬b.toList=[]:=by intro h;rw[h]at hh9;exact absurd hh9 (by decide)
  go_wp2_with fail
  rcases aH (bM b)with hh8 | hh8
  ·refine(aC (g:=gg) (cB hh8 gg.W)).mono ?_;rintro _ _ ⟨rfl,gg,rfl⟩;go_wp2_with fail
   rcases aH (fR cc)with hh7 | hh7
   ·refine(aC (g:=gg) (cM hh7 _ _ gg.W (Kd.aF H.out.1 (gout gg)) L.out.1)).mono ?_;rintro _ _ ⟨rfl,gg,rfl⟩;go_wp2_with fail
    rcases aH (exB d)with hh6 | hh6
    ·refine(aC (g:=gg) (cC hh6 _ _ gg.W (Kd.aF H.out.2.1 (gout gg)) L.out.2.1)).mono ?_;rintro _ _ ⟨rfl,gg,rfl⟩
     rcases aH (e != 0)with hh5 | hh5
     ·have he5:¬e=0:=by simpa using hh5
      go_wp2_with fail;go_ret;exact⟨aA (by simp[aS,hh9,hh8,hh7,hh6,he5]),gout _⟩
     ·have he5:e=0:=by simpa using hh5
      rcases aH (f != 0)with hh4 | hh4
      ·have he4:¬f=0:=by simpa using hh4
       go_wp2_with fail;go_ret;exact⟨aA (by simp[aS,hh9,hh8,hh7,hh6,he5,he4]),gout _⟩
      ·have he4:f=0:=by simpa using hh4
       rcases bu hh.length with hh3 | hh3
       ·have he3:hh.isEmpty=ac:=by rw[bk hh3];rfl
        have hn3:¬0<hh.length:=by omega
        have hm3:decide (0<hh.length)=O:=decide_eq_false hn3;clear hh3
        rcases bu g.length with hh2 | hh2
        ·have he2:g.isEmpty=ac:=by rw[bk hh2];rfl
         have hn2:¬0<g.length:=by omega
         have hm2:decide (0<g.length)=O:=decide_eq_false hn2;clear hh2;go_wp2_with fail
         rcases aH (bdB g)with hh1 | hh1
         ·refine(aC (g:=gg) (bK (IH.out _ (bi rfl)) hh1 _ _ gg.W (Kd.aF H.out.2.2.1 (gout gg)) L.out.2.2.1)).mono ?_;rintro _ _ ⟨rfl,gg,rfl⟩;go_wp2_with fail
          rcases aH (bdB hh)with hh0 | hh0
          ·refine(aC (g:=gg) (bK (IH.out _ (Or.inr rfl)) hh0 _ _ gg.W (Kd.aF H.out.2.2.2 (gout gg)) L.out.2.2.2)).mono ?_;rintro _ _ ⟨rfl,gg,rfl⟩;go_wp2_with fail;go_ret;exact⟨aA (by simp[aS,hh9,hh8,hh7,hh6,he5,he4,he3,he2,hh1,hh0]),gout _⟩
          ·refine(aC (g:=gg) (bK (IH.out _ (Or.inr rfl)) hh0 _ _ gg.W (Kd.aF H.out.2.2.2 (gout gg)) L.out.2.2.2)).mono ?_;rintro _ _ ⟨rfl,gg,rfl⟩;go_wp2_with fail;go_ret;exact⟨aA (by simp[aS,hh9,hh8,hh7,hh6,he5,he4,he3,he2,hh1,hh0]),gout _⟩
         ·refine(aC (g:=gg) (bK (IH.out _ (bi rfl)) hh1 _ _ gg.W (Kd.aF H.out.2.2.1 (gout gg)) L.out.2.2.1)).mono ?_;rintro _ _ ⟨rfl,gg,rfl⟩;go_wp2_with fail;go_ret;exact⟨aA (by simp[aS,hh9,hh8,hh7,hh6,he5,he4,he3,he2,hh1]),gout _⟩
        ·have he2:g.isEmpty=O:=by rw[bv];rintro rfl;exact absurd hh2 (by simp)
         go_wp2_with fail;go_ret;exact⟨aA (by simp[aS,hh9,hh8,hh7,hh6,he5,he4,he3,he2]),gout _⟩
       ·have he3:hh.isEmpty=O:=by rw[bv];rintro rfl;exact absurd hh3 (by simp)
        go_wp2_with fail;go_ret;exact⟨aA (by simp[aS,hh9,hh8,hh7,hh6,he5,he4,he3]),gout _⟩
    ·refine(aC (g:=gg) (cC hh6 _ _ gg.W (Kd.aF H.out.2.1 (gout gg)) L.out.2.1)).mono ?_;rintro _ _ ⟨rfl,gg,rfl⟩;go_wp2_with fail;go_ret;exact⟨aA (by simp[aS,hh9,hh8,hh7,hh6]),gout _⟩
   ·refine(aC (g:=gg) (cM hh7 _ _ gg.W (Kd.aF H.out.1 (gout gg)) L.out.1)).mono ?_;rintro _ _ ⟨rfl,gg,rfl⟩;go_wp2_with fail;go_ret;exact⟨aA (by simp[aS,hh9,hh8,hh7]),gout _⟩
  ·refine(aC (g:=gg) (cB hh8 gg.W)).mono ?_;rintro _ _ ⟨rfl,gg,rfl⟩;go_wp2_with fail;go_ret;exact⟨aA (by simp[aS,hh9,hh8]),gout _⟩
end
section
attribute [local go_sem] G.cell
theorem refStmtForm_k2 (b:ByteArray)(cc d:S116)(e f:Int)(g hh:List S119){A5:Option Addr}{c5:Nat}{A9:Option Addr}{c9:Nat}{A12:Option Addr}{c12:Nat}{A13:Option Addr}{c13:Nat}(w:World)
 (L:Aside0 (cc.f3.length<=c5/\d.f3.length<=c9/\g.length<=c12/\hh.length<=c13)) (H:Aside0 (cH.C w A5 cc.f3.length cc.f3/\cH.C w A9 d.f3.length d.f3/\cU.C w A12 g.length g/\cU.C w A13 hh.length hh))
 (IH:Aside0 (∀l,l=g\/l=hh->fZ 126 l)):
 Calls au 172 #[.agg #[.int .i64 2,.string b,.int .i64 cc.f0,.int .u64 cc.f1,.string cc.f2,.slice A5 cc.f3.length c5,.int .i64 d.f0,.int .u64 d.f1,.string d.f2,.slice A9 d.f3.length c9,.int .u64 e,.int .u64 f,.slice A12 g.length c12,.slice A13 hh.length c13]] w fun e' w'=>e'=.returned (.bool (aS ⟨2,b,cc,d,e,f,g,hh⟩&&bdB g&&bdB hh))/\Below w.heap.size w w':=by
 have gout:=@gA w;go_enter Tryz.func172,Tryz.ntmps172
 go_upto_region 1 with (fail)
 refine bQ ?_;intro gg
 rcases aH b.toList.isEmpty with hh9 | hh9
 ·have he9:b.toList=[]:=by exact dx.1 hh9
  have hf9:=fU he9;go_wp2_with fail;go_ret;exact⟨aA (by simp[aS,hf9]),gout _⟩
 ·have he9:¬b.toList=[]:=by intro h;rw[h]at hh9;exact absurd hh9 (by decide)
  go_wp2_with fail
  rcases aH (bM b)with hh8 | hh8
  ·refine(aC (g:=gg) (cB hh8 gg.W)).mono ?_;rintro _ _ ⟨rfl,gg,rfl⟩;go_wp2_with fail
   rcases aH (exB cc)with hh7 | hh7
   ·refine(aC (g:=gg) (cC hh7 _ _ gg.W (Kd.aF H.out.1 (gout gg)) L.out.1)).mono ?_;rintro _ _ ⟨rfl,gg,rfl⟩;go_wp2_with fail
    rcases aH (exB d)with hh6 | hh6
    ·refine(aC (g:=gg) (cC hh6 _ _ gg.W (Kd.aF H.out.2.1 (gout gg)) L.out.2.1)).mono ?_;rintro _ _ ⟨rfl,gg,rfl⟩
     rcases aH (e != 0)with hh5 | hh5
     ·have he5:¬e=0:=by simpa using hh5
      go_wp2_with fail;go_ret;exact⟨aA (by simp[aS,hh9,hh8,hh7,hh6,he5]),gout _⟩
     ·have he5:e=0:=by simpa using hh5
      rcases aH (f != 0)with hh4 | hh4
      ·have he4:¬f=0:=by simpa using hh4
       go_wp2_with fail;go_ret;exact⟨aA (by simp[aS,hh9,hh8,hh7,hh6,he5,he4]),gout _⟩
      ·have he4:f=0:=by simpa using hh4
       rcases bu hh.length with hh3 | hh3
       ·have he3:hh.isEmpty=ac:=by rw[bk hh3];rfl
        have hn3:¬0<hh.length:=by omega
        have hm3:decide (0<hh.length)=O:=decide_eq_false hn3;clear hh3
        rcases bu g.length with hh2 | hh2
        ·have he2:g.isEmpty=ac:=by rw[bk hh2];rfl
         have hn2:¬0<g.length:=by omega
         have hm2:decide (0<g.length)=O:=decide_eq_false hn2;clear hh2;go_wp2_with fail
         rcases aH (bdB g)with hh1 | hh1
         ·refine(aC (g:=gg) (bK (IH.out _ (bi rfl)) hh1 _ _ gg.W (Kd.aF H.out.2.2.1 (gout gg)) L.out.2.2.1)).mono ?_;rintro _ _ ⟨rfl,gg,rfl⟩;go_wp2_with fail
          rcases aH (bdB hh)with hh0 | hh0
          ·refine(aC (g:=gg) (bK (IH.out _ (Or.inr rfl)) hh0 _ _ gg.W (Kd.aF H.out.2.2.2 (gout gg)) L.out.2.2.2)).mono ?_;rintro _ _ ⟨rfl,gg,rfl⟩;go_wp2_with fail;go_ret;exact⟨aA (by simp[aS,hh9,hh8,hh7,hh6,he5,he4,he3,he2,hh1,hh0]),gout _⟩
          ·refine(aC (g:=gg) (bK (IH.out _ (Or.inr rfl)) hh0 _ _ gg.W (Kd.aF H.out.2.2.2 (gout gg)) L.out.2.2.2)).mono ?_;rintro _ _ ⟨rfl,gg,rfl⟩;go_wp2_with fail;go_ret;exact⟨aA (by simp[aS,hh9,hh8,hh7,hh6,he5,he4,he3,he2,hh1,hh0]),gout _⟩
         ·refine(aC (g:=gg) (bK (IH.out _ (bi rfl)) hh1 _ _ gg.W (Kd.aF H.out.2.2.1 (gout gg)) L.out.2.2.1)).mono ?_;rintro _ _ ⟨rfl,gg,rfl⟩;go_wp2_with fail;go_ret;exact⟨aA (by simp[aS,hh9,hh8,hh7,hh6,he5,he4,he3,he2,hh1]),gout _⟩
        ·have he2:g.isEmpty=O:=by rw[bv];rintro rfl;exact absurd hh2 (by simp)
         go_wp2_with fail;go_ret;exact⟨aA (by simp[aS,hh9,hh8,hh7,hh6,he5,he4,he3,he2]),gout _⟩
       ·have he3:hh.isEmpty=O:=by rw[bv];rintro rfl;exact absurd hh3 (by simp)
        go_wp2_with fail;go_ret;exact⟨aA (by simp[aS,hh9,hh8,hh7,hh6,he5,he4,he3]),gout _⟩
    ·refine(aC (g:=gg) (cC hh6 _ _ gg.W (Kd.aF H.out.2.1 (gout gg)) L.out.2.1)).mono ?_;rintro _ _ ⟨rfl,gg,rfl⟩;go_wp2_with fail;go_ret;exact⟨aA (by simp[aS,hh9,hh8,hh7,hh6]),gout _⟩
   ·refine(aC (g:=gg) (cC hh7 _ _ gg.W (Kd.aF H.out.1 (gout gg)) L.out.1)).mono ?_;rintro _ _ ⟨rfl,gg,rfl⟩;go_wp2_with fail;go_ret;exact⟨aA (by simp[aS,hh9,hh8,hh7]),gout _⟩
  ·refine(aC (g:=gg) (cB hh8 gg.W)).mono ?_;rintro _ _ ⟨rfl,gg,rfl⟩;go_wp2_with fail;go_ret;exact⟨aA (by simp[aS,hh9,hh8]),gout _⟩
end
section
attribute [local go_sem] G.cell
theorem refStmtForm_k3 (b:ByteArray)(cc d:S116)(e f:Int)(g hh:List S119){A5:Option Addr}{c5:Nat}{A9:Option Addr}{c9:Nat}{A12:Option Addr}{c12:Nat}{A13:Option Addr}{c13:Nat}(w:World)
 (L:Aside0 (cc.f3.length<=c5/\d.f3.length<=c9/\g.length<=c12/\hh.length<=c13)) (H:Aside0 (cH.C w A5 cc.f3.length cc.f3/\cH.C w A9 d.f3.length d.f3/\cU.C w A12 g.length g/\cU.C w A13 hh.length hh))
 (IH:Aside0 (∀l,l=g\/l=hh->fZ 126 l)):
 Calls au 172 #[.agg #[.int .i64 3,.string b,.int .i64 cc.f0,.int .u64 cc.f1,.string cc.f2,.slice A5 cc.f3.length c5,.int .i64 d.f0,.int .u64 d.f1,.string d.f2,.slice A9 d.f3.length c9,.int .u64 e,.int .u64 f,.slice A12 g.length c12,.slice A13 hh.length c13]] w fun e' w'=>e'=.returned (.bool (aS ⟨3,b,cc,d,e,f,g,hh⟩&&bdB g&&bdB hh))/\Below w.heap.size w w':=by
 have gout:=@gA w;go_enter Tryz.func172,Tryz.ntmps172
 go_upto_region 1 with (fail)
 refine bQ ?_;intro gg
 rcases aH b.toList.isEmpty with hh6 | hh6
 ·have he6:b.toList=[]:=by exact dx.1 hh6
  go_wp2_with fail
  rcases aH (fR cc)with hh5 | hh5
  ·refine(aC (g:=gg) (cM hh5 _ _ gg.W (Kd.aF H.out.1 (gout gg)) L.out.1)).mono ?_;rintro _ _ ⟨rfl,gg,rfl⟩;go_wp2_with fail
   rcases aH (exB d)with hh4 | hh4
   ·refine(aC (g:=gg) (cC hh4 _ _ gg.W (Kd.aF H.out.2.1 (gout gg)) L.out.2.1)).mono ?_;rintro _ _ ⟨rfl,gg,rfl⟩
    rcases aH (e != 0)with hh3 | hh3
    ·have he3:¬e=0:=by simpa using hh3
     go_wp2_with fail;go_ret;exact⟨aA (by simp[aS,hh6,hh5,hh4,he3]),gout _⟩
    ·have he3:e=0:=by simpa using hh3
     rcases aH (f != 0)with hh2 | hh2
     ·have he2:¬f=0:=by simpa using hh2
      go_wp2_with fail;go_ret;exact⟨aA (by simp[aS,hh6,hh5,hh4,he3,he2]),gout _⟩
     ·have he2:f=0:=by simpa using hh2
      go_wp2_with fail
      rcases aH (bdB g)with hh1 | hh1
      ·refine(aC (g:=gg) (bK (IH.out _ (bi rfl)) hh1 _ _ gg.W (Kd.aF H.out.2.2.1 (gout gg)) L.out.2.2.1)).mono ?_;rintro _ _ ⟨rfl,gg,rfl⟩;go_wp2_with fail
       rcases aH (bdB hh)with hh0 | hh0
       ·refine(aC (g:=gg) (bK (IH.out _ (Or.inr rfl)) hh0 _ _ gg.W (Kd.aF H.out.2.2.2 (gout gg)) L.out.2.2.2)).mono ?_;rintro _ _ ⟨rfl,gg,rfl⟩;go_wp2_with fail;go_ret;exact⟨aA (by simp[aS,hh6,hh5,hh4,he3,he2,hh1,hh0]),gout _⟩
       ·refine(aC (g:=gg) (bK (IH.out _ (Or.inr rfl)) hh0 _ _ gg.W (Kd.aF H.out.2.2.2 (gout gg)) L.out.2.2.2)).mono ?_;rintro _ _ ⟨rfl,gg,rfl⟩;go_wp2_with fail;go_ret;exact⟨aA (by simp[aS,hh6,hh5,hh4,he3,he2,hh1,hh0]),gout _⟩
      ·refine(aC (g:=gg) (bK (IH.out _ (bi rfl)) hh1 _ _ gg.W (Kd.aF H.out.2.2.1 (gout gg)) L.out.2.2.1)).mono ?_;rintro _ _ ⟨rfl,gg,rfl⟩;go_wp2_with fail;go_ret;exact⟨aA (by simp[aS,hh6,hh5,hh4,he3,he2,hh1]),gout _⟩
   ·refine(aC (g:=gg) (cC hh4 _ _ gg.W (Kd.aF H.out.2.1 (gout gg)) L.out.2.1)).mono ?_;rintro _ _ ⟨rfl,gg,rfl⟩;go_wp2_with fail;go_ret;exact⟨aA (by simp[aS,hh6,hh5,hh4]),gout _⟩
  ·refine(aC (g:=gg) (cM hh5 _ _ gg.W (Kd.aF H.out.1 (gout gg)) L.out.1)).mono ?_;rintro _ _ ⟨rfl,gg,rfl⟩;go_wp2_with fail;go_ret;exact⟨aA (by simp[aS,hh6,hh5]),gout _⟩
 ·have he6:¬b.toList=[]:=by intro h;rw[h]at hh6;exact absurd hh6 (by decide)
  go_wp2_with fail;go_ret;exact⟨aA (by simp[aS,hh6]),gout _⟩
end
section
attribute [local go_sem] G.cell
theorem refStmtForm_k4 (b:ByteArray)(cc d:S116)(e f:Int)(g hh:List S119){A5:Option Addr}{c5:Nat}{A9:Option Addr}{c9:Nat}{A12:Option Addr}{c12:Nat}{A13:Option Addr}{c13:Nat}(w:World)
 (L:Aside0 (cc.f3.length<=c5/\d.f3.length<=c9/\g.length<=c12/\hh.length<=c13)) (H:Aside0 (cH.C w A5 cc.f3.length cc.f3/\cH.C w A9 d.f3.length d.f3/\cU.C w A12 g.length g/\cU.C w A13 hh.length hh))
 (IH:Aside0 (∀l,l=g\/l=hh->fZ 126 l)):
 Calls au 172 #[.agg #[.int .i64 4,.string b,.int .i64 cc.f0,.int .u64 cc.f1,.string cc.f2,.slice A5 cc.f3.length c5,.int .i64 d.f0,.int .u64 d.f1,.string d.f2,.slice A9 d.f3.length c9,.int .u64 e,.int .u64 f,.slice A12 g.length c12,.slice A13 hh.length c13]] w fun e' w'=>e'=.returned (.bool (aS ⟨4,b,cc,d,e,f,g,hh⟩&&bdB g&&bdB hh))/\Below w.heap.size w w':=by
 have gout:=@gA w;go_enter Tryz.func172,Tryz.ntmps172
 go_upto_region 1 with (fail)
 refine bQ ?_;intro gg
 rcases aH b.toList.isEmpty with hh6 | hh6
 ·have he6:b.toList=[]:=by exact dx.1 hh6
  have hf6:=fU he6;go_wp2_with fail;go_ret;exact⟨aA (by simp[aS,hf6]),gout _⟩
 ·have he6:¬b.toList=[]:=by intro h;rw[h]at hh6;exact absurd hh6 (by decide)
  go_wp2_with fail
  rcases aH (bM b)with hh5 | hh5
  ·refine(aC (g:=gg) (cB hh5 gg.W)).mono ?_;rintro _ _ ⟨rfl,gg,rfl⟩;go_wp2_with fail
   rcases aH (fR cc)with hh4 | hh4
   ·refine(aC (g:=gg) (cM hh4 _ _ gg.W (Kd.aF H.out.1 (gout gg)) L.out.1)).mono ?_;rintro _ _ ⟨rfl,gg,rfl⟩;go_wp2_with fail
    rcases aH (fR d)with hh3 | hh3
    ·refine(aC (g:=gg) (cM hh3 _ _ gg.W (Kd.aF H.out.2.1 (gout gg)) L.out.2.1)).mono ?_;rintro _ _ ⟨rfl,gg,rfl⟩
     rcases bu hh.length with hh2 | hh2
     ·have he2:hh.isEmpty=ac:=by rw[bk hh2];rfl
      have hn2:¬0<hh.length:=by omega
      have hm2:decide (0<hh.length)=O:=decide_eq_false hn2;clear hh2;go_wp2_with fail
      rcases aH (bdB g)with hh1 | hh1
      ·refine(aC (g:=gg) (bK (IH.out _ (bi rfl)) hh1 _ _ gg.W (Kd.aF H.out.2.2.1 (gout gg)) L.out.2.2.1)).mono ?_;rintro _ _ ⟨rfl,gg,rfl⟩;go_wp2_with fail
       rcases aH (bdB hh)with hh0 | hh0
       ·refine(aC (g:=gg) (bK (IH.out _ (Or.inr rfl)) hh0 _ _ gg.W (Kd.aF H.out.2.2.2 (gout gg)) L.out.2.2.2)).mono ?_;rintro _ _ ⟨rfl,gg,rfl⟩;go_wp2_with fail;go_ret;exact⟨aA (by simp[aS,hh6,hh5,hh4,hh3,he2,hh1,hh0]),gout _⟩
       ·refine(aC (g:=gg) (bK (IH.out _ (Or.inr rfl)) hh0 _ _ gg.W (Kd.aF H.out.2.2.2 (gout gg)) L.out.2.2.2)).mono ?_;rintro _ _ ⟨rfl,gg,rfl⟩;go_wp2_with fail;go_ret;exact⟨aA (by simp[aS,hh6,hh5,hh4,hh3,he2,hh1,hh0]),gout _⟩
      ·refine(aC (g:=gg) (bK (IH.out _ (bi rfl)) hh1 _ _ gg.W (Kd.aF H.out.2.2.1 (gout gg)) L.out.2.2.1)).mono ?_;rintro _ _ ⟨rfl,gg,rfl⟩;go_wp2_with fail;go_ret;exact⟨aA (by simp[aS,hh6,hh5,hh4,hh3,he2,hh1]),gout _⟩
     ·have he2:hh.isEmpty=O:=by rw[bv];rintro rfl;exact absurd hh2 (by simp)
      go_wp2_with fail;go_ret;exact⟨aA (by simp[aS,hh6,hh5,hh4,hh3,he2]),gout _⟩
    ·refine(aC (g:=gg) (cM hh3 _ _ gg.W (Kd.aF H.out.2.1 (gout gg)) L.out.2.1)).mono ?_;rintro _ _ ⟨rfl,gg,rfl⟩;go_wp2_with fail;go_ret;exact⟨aA (by simp[aS,hh6,hh5,hh4,hh3]),gout _⟩
   ·refine(aC (g:=gg) (cM hh4 _ _ gg.W (Kd.aF H.out.1 (gout gg)) L.out.1)).mono ?_;rintro _ _ ⟨rfl,gg,rfl⟩;go_wp2_with fail;go_ret;exact⟨aA (by simp[aS,hh6,hh5,hh4]),gout _⟩
  ·refine(aC (g:=gg) (cB hh5 gg.W)).mono ?_;rintro _ _ ⟨rfl,gg,rfl⟩;go_wp2_with fail;go_ret;exact⟨aA (by simp[aS,hh6,hh5]),gout _⟩
end
section
attribute [local go_sem] G.cell
theorem refStmtForm_k5 (b:ByteArray)(cc d:S116)(e f:Int)(g hh:List S119){A5:Option Addr}{c5:Nat}{A9:Option Addr}{c9:Nat}{A12:Option Addr}{c12:Nat}{A13:Option Addr}{c13:Nat}(w:World)
 (L:Aside0 (cc.f3.length<=c5/\d.f3.length<=c9/\g.length<=c12/\hh.length<=c13)) (H:Aside0 (cH.C w A5 cc.f3.length cc.f3/\cH.C w A9 d.f3.length d.f3/\cU.C w A12 g.length g/\cU.C w A13 hh.length hh))
 (IH:Aside0 (∀l,l=g\/l=hh->fZ 126 l)):
 Calls au 172 #[.agg #[.int .i64 5,.string b,.int .i64 cc.f0,.int .u64 cc.f1,.string cc.f2,.slice A5 cc.f3.length c5,.int .i64 d.f0,.int .u64 d.f1,.string d.f2,.slice A9 d.f3.length c9,.int .u64 e,.int .u64 f,.slice A12 g.length c12,.slice A13 hh.length c13]] w fun e' w'=>e'=.returned (.bool (aS ⟨5,b,cc,d,e,f,g,hh⟩&&bdB g&&bdB hh))/\Below w.heap.size w w':=by
 have gout:=@gA w;go_enter Tryz.func172,Tryz.ntmps172
 go_upto_region 1 with (fail)
 refine bQ ?_;intro gg
 rcases aH b.toList.isEmpty with hh9 | hh9
 ·have he9:b.toList=[]:=by exact dx.1 hh9
  have hf9:=fU he9;go_wp2_with fail;go_ret;exact⟨aA (by simp[aS,hf9]),gout _⟩
 ·have he9:¬b.toList=[]:=by intro h;rw[h]at hh9;exact absurd hh9 (by decide)
  go_wp2_with fail
  rcases aH (bM b)with hh8 | hh8
  ·refine(aC (g:=gg) (cB hh8 gg.W)).mono ?_;rintro _ _ ⟨rfl,gg,rfl⟩;go_wp2_with fail
   rcases aH (fR cc)with hh7 | hh7
   ·refine(aC (g:=gg) (cM hh7 _ _ gg.W (Kd.aF H.out.1 (gout gg)) L.out.1)).mono ?_;rintro _ _ ⟨rfl,gg,rfl⟩;go_wp2_with fail
    rcases aH (fR d)with hh6 | hh6
    ·refine(aC (g:=gg) (cM hh6 _ _ gg.W (Kd.aF H.out.2.1 (gout gg)) L.out.2.1)).mono ?_;rintro _ _ ⟨rfl,gg,rfl⟩
     rcases aH (e != 0)with hh5 | hh5
     ·have he5:¬e=0:=by simpa using hh5
      go_wp2_with fail;go_ret;exact⟨aA (by simp[aS,hh9,hh8,hh7,hh6,he5]),gout _⟩
     ·have he5:e=0:=by simpa using hh5
      rcases aH (f != 0)with hh4 | hh4
      ·have he4:¬f=0:=by simpa using hh4
       go_wp2_with fail;go_ret;exact⟨aA (by simp[aS,hh9,hh8,hh7,hh6,he5,he4]),gout _⟩
      ·have he4:f=0:=by simpa using hh4
       rcases bu hh.length with hh3 | hh3
       ·have he3:hh.isEmpty=ac:=by rw[bk hh3];rfl
        have hn3:¬0<hh.length:=by omega
        have hm3:decide (0<hh.length)=O:=decide_eq_false hn3;clear hh3
        rcases bu g.length with hh2 | hh2
        ·have he2:g.isEmpty=ac:=by rw[bk hh2];rfl
         have hn2:¬0<g.length:=by omega
         have hm2:decide (0<g.length)=O:=decide_eq_false hn2;clear hh2;go_wp2_with fail
         rcases aH (bdB g)with hh1 | hh1
         ·refine(aC (g:=gg) (bK (IH.out _ (bi rfl)) hh1 _ _ gg.W (Kd.aF H.out.2.2.1 (gout gg)) L.out.2.2.1)).mono ?_;rintro _ _ ⟨rfl,gg,rfl⟩;go_wp2_with fail
          rcases aH (bdB hh)with hh0 | hh0
          ·refine(aC (g:=gg) (bK (IH.out _ (Or.inr rfl)) hh0 _ _ gg.W (Kd.aF H.out.2.2.2 (gout gg)) L.out.2.2.2)).mono ?_;rintro _ _ ⟨rfl,gg,rfl⟩;go_wp2_with fail;go_ret;exact⟨aA (by simp[aS,hh9,hh8,hh7,hh6,he5,he4,he3,he2,hh1,hh0]),gout _⟩
          ·refine(aC (g:=gg) (bK (IH.out _ (Or.inr rfl)) hh0 _ _ gg.W (Kd.aF H.out.2.2.2 (gout gg)) L.out.2.2.2)).mono ?_;rintro _ _ ⟨rfl,gg,rfl⟩;go_wp2_with fail;go_ret;exact⟨aA (by simp[aS,hh9,hh8,hh7,hh6,he5,he4,he3,he2,hh1,hh0]),gout _⟩
         ·refine(aC (g:=gg) (bK (IH.out _ (bi rfl)) hh1 _ _ gg.W (Kd.aF H.out.2.2.1 (gout gg)) L.out.2.2.1)).mono ?_;rintro _ _ ⟨rfl,gg,rfl⟩;go_wp2_with fail;go_ret;exact⟨aA (by simp[aS,hh9,hh8,hh7,hh6,he5,he4,he3,he2,hh1]),gout _⟩
        ·have he2:g.isEmpty=O:=by rw[bv];rintro rfl;exact absurd hh2 (by simp)
         go_wp2_with fail;go_ret;exact⟨aA (by simp[aS,hh9,hh8,hh7,hh6,he5,he4,he3,he2]),gout _⟩
       ·have he3:hh.isEmpty=O:=by rw[bv];rintro rfl;exact absurd hh3 (by simp)
        go_wp2_with fail;go_ret;exact⟨aA (by simp[aS,hh9,hh8,hh7,hh6,he5,he4,he3]),gout _⟩
    ·refine(aC (g:=gg) (cM hh6 _ _ gg.W (Kd.aF H.out.2.1 (gout gg)) L.out.2.1)).mono ?_;rintro _ _ ⟨rfl,gg,rfl⟩;go_wp2_with fail;go_ret;exact⟨aA (by simp[aS,hh9,hh8,hh7,hh6]),gout _⟩
   ·refine(aC (g:=gg) (cM hh7 _ _ gg.W (Kd.aF H.out.1 (gout gg)) L.out.1)).mono ?_;rintro _ _ ⟨rfl,gg,rfl⟩;go_wp2_with fail;go_ret;exact⟨aA (by simp[aS,hh9,hh8,hh7]),gout _⟩
  ·refine(aC (g:=gg) (cB hh8 gg.W)).mono ?_;rintro _ _ ⟨rfl,gg,rfl⟩;go_wp2_with fail;go_ret;exact⟨aA (by simp[aS,hh9,hh8]),gout _⟩
end
theorem kinds (a:Int):a<1\/(¬a<1/\a > 5)\/a=1\/a=2\/a=3\/a=4\/a=5:=by omega
theorem stmtForm_walk (x:S119)(ih:∀l,l=x.f6\/l=x.f7->fZ 121 l):StmtC 168 x:=by
 intro A5 c5 A9 c9 A12 c12 A13 c13 w l5 g5 l9 g9 l12 g12 l13 g13;have L:=J (aq l5 (aq l9 (aq l12 l13)));have H:=J (aq g5 (aq g9 (aq g12 g13)));have IH:=J ih;rw[stB_eq];obtain⟨a,b,cc,d,e,f,g,hh⟩:=x;simp only at*
 rcases kinds a with h | ⟨h,h'⟩ | rfl | rfl | rfl | rfl | rfl
 ·exact stmtForm_klt a h b cc d e f g hh w L H IH
 ·exact stmtForm_kgt a h h' b cc d e f g hh w L H IH
 ·exact stmtForm_k1 b cc d e f g hh w L H IH
 ·exact stmtForm_k2 b cc d e f g hh w L H IH
 ·exact stmtForm_k3 b cc d e f g hh w L H IH
 ·exact stmtForm_k4 b cc d e f g hh w L H IH
 ·exact stmtForm_k5 b cc d e f g hh w L H IH
theorem kH (x:S119)(ih:∀l,l=x.f6\/l=x.f7->fZ 126 l):StmtC 172 x:=by
 intro A5 c5 A9 c9 A12 c12 A13 c13 w l5 g5 l9 g9 l12 g12 l13 g13;have L:=J (aq l5 (aq l9 (aq l12 l13)));have H:=J (aq g5 (aq g9 (aq g12 g13)));have IH:=J ih;rw[stB_eq];obtain⟨a,b,cc,d,e,f,g,hh⟩:=x;simp only at*
 rcases kinds a with h | ⟨h,h'⟩ | rfl | rfl | rfl | rfl | rfl
 ·exact kW a h b cc d e f g hh w L H IH
 ·exact lN a h h' b cc d e f g hh w L H IH
 ·exact refStmtForm_k1 b cc d e f g hh w L H IH
 ·exact refStmtForm_k2 b cc d e f g hh w L H IH
 ·exact refStmtForm_k3 b cc d e f g hh w L H IH
 ·exact refStmtForm_k4 b cc d e f g hh w L H IH
 ·exact refStmtForm_k5 b cc d e f g hh w L H IH
theorem st_size {x y:S119}{l:List S119}{n:Nat}(hl:l=x.f6\/l=x.f7)(hy:y∈l)(h:cu x<=n+1):cu y<=n:=by
 have:=fe hy;obtain⟨a,b,cc,d,e,f,g,hh⟩:=x
 simp at h
 simp only at hl
 rcases hl with rfl | rfl <;> omega
theorem stmtForm_all:∀(n:Nat) (x:S119),cu x<=n->StmtC 168 x:=by
 intro n
 induction n with
 |zero=>intro x h;obtain⟨a,b,c,l⟩:=x;simp at h
 |succ n ih=>
  intro x h;refine stmtForm_walk x fun l hl A c w' hc hlc=> ?_;rw[iO];exact jI l A c w' hc hlc fun y hy=>ih y (st_size hl hy h)
theorem kV:∀(n:Nat) (x:S119),cu x<=n->StmtC 172 x:=by
 intro n
 induction n with
 |zero=>intro x h;obtain⟨a,b,c,l⟩:=x;simp at h
 |succ n ih=>
  intro x h;refine kH x fun l hl A c w' hc hlc=> ?_;rw[iO];exact iL l A c w' hc hlc fun y hy=>ih y (st_size hl hy h)
theorem bodyForm_calls (l:List S119):fZ 121 l:=fun A c w' hc hl=>by
 rw[iO];exact jI l A c w' hc hl fun y _=>stmtForm_all _ y (ai _)
theorem mE (l:List S119):fZ 126 l:=fun A c w' hc hl=>by
 rw[iO];exact iL l A c w' hc hl fun y _=>kV _ y (ai _)
section
attribute [local go_sem] G.cell
def dcB (x:S70):Bool:=decide (1<=x.f0)&&decide (x.f0<=5)&&bM x.f1&&decide (0<=x.f2)&&(if x.f0=3 then decide (0<x.f3.length)&&decide (0<x.f2)else x.f3.isEmpty)
theorem kinds5 (a:Int):a<1\/(¬a<1/\a > 5)\/a=1\/a=2\/a=3\/a=4\/a=5:=by omega
theorem declForm_klt (a:Int)(h1:a<1)(b:ByteArray)(s:Int)(l:List Int){A:Option Addr}{c:Nat}(w:World):
 Calls au 120 #[.agg #[.int .i64 a,.string b,.int .i64 s,.slice A l.length c]] w fun e' w'=>e'=.returned (.bool (dcB ⟨a,b,s,l⟩))/\Below w.heap.size w w':=by
 have gout:=@gA w
 have h0:dcB ⟨a,b,s,l⟩=O:=by simp[dcB];omega
 rw[h0];clear h0;go_enter Tryz.func120,Tryz.ntmps120
 go_upto_region 1 with (fail)
 refine bQ ?_;intro gg;go_wp2_with fail;go_ret;exact⟨aA (by simp),gout _⟩
theorem declForm_kgt (a:Int)(h1:¬a<1)(h2:a > 5)(b:ByteArray)(s:Int)(l:List Int){A:Option Addr}{c:Nat}(w:World):
 Calls au 120 #[.agg #[.int .i64 a,.string b,.int .i64 s,.slice A l.length c]] w fun e' w'=>e'=.returned (.bool (dcB ⟨a,b,s,l⟩))/\Below w.heap.size w w':=by
 have gout:=@gA w
 have h0:dcB ⟨a,b,s,l⟩=O:=by simp[dcB];omega
 rw[h0];clear h0;go_enter Tryz.func120,Tryz.ntmps120
 go_upto_region 1 with (fail)
 refine bQ ?_;intro gg;go_wp2_with fail;go_ret;exact⟨aA (by simp),gout _⟩
theorem declForm_k1 (b:ByteArray)(s:Int)(l:List Int){A:Option Addr}{c:Nat}(w:World):
 Calls au 120 #[.agg #[.int .i64 1,.string b,.int .i64 s,.slice A l.length c]] w fun e' w'=>e'=.returned (.bool (dcB ⟨1,b,s,l⟩))/\Below w.heap.size w w':=by
 have gout:=@gA w;go_enter Tryz.func120,Tryz.ntmps120
 go_upto_region 1 with (fail)
 refine bQ ?_;intro gg;go_wp2_with fail
 rcases aH (bM b)with h1 | h1
 all_goals
  refine(aC (g:=gg) (dZ h1 gg.W)).mono ?_;rintro _ _ ⟨rfl,gg,rfl⟩
 ·rcases dq s 0 with h2 | h2
  ·have h3:¬0<=s:=by omega
   go_wp2_with fail;go_ret;exact⟨aA (by simp[dcB,h1,h3] <;> (intros;omega)),gout _⟩
  ·have h3:¬s<0:=by omega
   rcases l with _ | ⟨y,r⟩
   all_goals
    (try have h6:((r.length:Int)+1==0)=O:=by simp;omega)
    go_wp2_with fail;go_ret;exact⟨aA (by simp[dcB,h1,h2];try omega),gout _⟩
 ·go_wp2_with fail;go_ret;exact⟨aA (by simp[dcB,h1]),gout _⟩
theorem declForm_k2 (b:ByteArray)(s:Int)(l:List Int){A:Option Addr}{c:Nat}(w:World):
 Calls au 120 #[.agg #[.int .i64 2,.string b,.int .i64 s,.slice A l.length c]] w fun e' w'=>e'=.returned (.bool (dcB ⟨2,b,s,l⟩))/\Below w.heap.size w w':=by
 have gout:=@gA w;go_enter Tryz.func120,Tryz.ntmps120
 go_upto_region 1 with (fail)
 refine bQ ?_;intro gg;go_wp2_with fail
 rcases aH (bM b)with h1 | h1
 all_goals
  refine(aC (g:=gg) (dZ h1 gg.W)).mono ?_;rintro _ _ ⟨rfl,gg,rfl⟩
 ·rcases dq s 0 with h2 | h2
  ·have h3:¬0<=s:=by omega
   go_wp2_with fail;go_ret;exact⟨aA (by simp[dcB,h1,h3] <;> (intros;omega)),gout _⟩
  ·have h3:¬s<0:=by omega
   rcases l with _ | ⟨y,r⟩
   all_goals
    (try have h6:((r.length:Int)+1==0)=O:=by simp;omega)
    go_wp2_with fail;go_ret;exact⟨aA (by simp[dcB,h1,h2];try omega),gout _⟩
 ·go_wp2_with fail;go_ret;exact⟨aA (by simp[dcB,h1]),gout _⟩
theorem declForm_k3 (b:ByteArray)(s:Int)(l:List Int){A:Option Addr}{c:Nat}(w:World):
 Calls au 120 #[.agg #[.int .i64 3,.string b,.int .i64 s,.slice A l.length c]] w fun e' w'=>e'=.returned (.bool (dcB ⟨3,b,s,l⟩))/\Below w.heap.size w w':=by
 have gout:=@gA w;go_enter Tryz.func120,Tryz.ntmps120
 go_upto_region 1 with (fail)
 refine bQ ?_;intro gg;go_wp2_with fail
 rcases aH (bM b)with h1 | h1
 all_goals
  refine(aC (g:=gg) (dZ h1 gg.W)).mono ?_;rintro _ _ ⟨rfl,gg,rfl⟩
 ·rcases dq s 0 with h2 | h2
  ·have h3:¬0<=s:=by omega
   go_wp2_with fail;go_ret;exact⟨aA (by simp[dcB,h1,h3] <;> (intros;omega)),gout _⟩
  ·have h3:¬s<0:=by omega
   rcases dq 0 s with h4 | h4
   ·rcases l with _ | ⟨y,r⟩
    all_goals
     go_wp2_with fail;go_ret;exact⟨aA (by simp[dcB,h1,h2,h4]),gout _⟩
   ·have h5:¬0<s:=by omega
    rcases l with _ | ⟨y,r⟩
    all_goals
     go_wp2_with fail;go_ret;exact⟨aA (by simp[dcB,h1,h2,h5]),gout _⟩
 ·go_wp2_with fail;go_ret;exact⟨aA (by simp[dcB,h1]),gout _⟩
theorem declForm_k4 (b:ByteArray)(s:Int)(l:List Int){A:Option Addr}{c:Nat}(w:World):
 Calls au 120 #[.agg #[.int .i64 4,.string b,.int .i64 s,.slice A l.length c]] w fun e' w'=>e'=.returned (.bool (dcB ⟨4,b,s,l⟩))/\Below w.heap.size w w':=by
 have gout:=@gA w;go_enter Tryz.func120,Tryz.ntmps120
 go_upto_region 1 with (fail)
 refine bQ ?_;intro gg;go_wp2_with fail
 rcases aH (bM b)with h1 | h1
 all_goals
  refine(aC (g:=gg) (dZ h1 gg.W)).mono ?_;rintro _ _ ⟨rfl,gg,rfl⟩
 ·rcases dq s 0 with h2 | h2
  ·have h3:¬0<=s:=by omega
   go_wp2_with fail;go_ret;exact⟨aA (by simp[dcB,h1,h3] <;> (intros;omega)),gout _⟩
  ·have h3:¬s<0:=by omega
   rcases l with _ | ⟨y,r⟩
   all_goals
    (try have h6:((r.length:Int)+1==0)=O:=by simp;omega)
    go_wp2_with fail;go_ret;exact⟨aA (by simp[dcB,h1,h2];try omega),gout _⟩
 ·go_wp2_with fail;go_ret;exact⟨aA (by simp[dcB,h1]),gout _⟩
theorem declForm_k5 (b:ByteArray)(s:Int)(l:List Int){A:Option Addr}{c:Nat}(w:World):
 Calls au 120 #[.agg #[.int .i64 5,.string b,.int .i64 s,.slice A l.length c]] w fun e' w'=>e'=.returned (.bool (dcB ⟨5,b,s,l⟩))/\Below w.heap.size w w':=by
 have gout:=@gA w;go_enter Tryz.func120,Tryz.ntmps120
 go_upto_region 1 with (fail)
 refine bQ ?_;intro gg;go_wp2_with fail
 rcases aH (bM b)with h1 | h1
 all_goals
  refine(aC (g:=gg) (dZ h1 gg.W)).mono ?_;rintro _ _ ⟨rfl,gg,rfl⟩
 ·rcases dq s 0 with h2 | h2
  ·have h3:¬0<=s:=by omega
   go_wp2_with fail;go_ret;exact⟨aA (by simp[dcB,h1,h3] <;> (intros;omega)),gout _⟩
  ·have h3:¬s<0:=by omega
   rcases l with _ | ⟨y,r⟩
   all_goals
    (try have h6:((r.length:Int)+1==0)=O:=by simp;omega)
    go_wp2_with fail;go_ret;exact⟨aA (by simp[dcB,h1,h2];try omega),gout _⟩
 ·go_wp2_with fail;go_ret;exact⟨aA (by simp[dcB,h1]),gout _⟩
theorem declForm_calls (x:S70)(A:Option Addr)(c:Nat)(w:World):Calls au 120 #[.agg #[.int .i64 x.f0,.string x.f1,.int .i64 x.f2,.slice A x.f3.length c]] w fun e' w'=>e'=.returned (.bool (dcB x))/\Below w.heap.size w w':=by
 obtain⟨a,b,s,l⟩:=x
 rcases kinds5 a with h | ⟨h,h'⟩ | rfl | rfl | rfl | rfl | rfl
 ·exact declForm_klt a h b s l w
 ·exact declForm_kgt a h h' b s l w
 ·exact declForm_k1 b s l w
 ·exact declForm_k2 b s l w
 ·exact declForm_k3 b s l w
 ·exact declForm_k4 b s l w
 ·exact declForm_k5 b s l w
theorem kX (a:Int)(h1:a<1)(b:ByteArray)(s:Int)(l:List Int){A:Option Addr}{c:Nat}(w:World):
 Calls au 125 #[.agg #[.int .i64 a,.string b,.int .i64 s,.slice A l.length c]] w fun e' w'=>e'=.returned (.bool (dcB ⟨a,b,s,l⟩))/\Below w.heap.size w w':=by
 have gout:=@gA w
 have h0:dcB ⟨a,b,s,l⟩=O:=by simp[dcB];omega
 rw[h0];clear h0;go_enter Tryz.func125,Tryz.ntmps125
 go_upto_region 1 with (fail)
 refine bQ ?_;intro gg;go_wp2_with fail;go_ret;exact⟨aA (by simp),gout _⟩
theorem l8 (a:Int)(h1:¬a<1)(h2:a > 5)(b:ByteArray)(s:Int)(l:List Int){A:Option Addr}{c:Nat}(w:World):
 Calls au 125 #[.agg #[.int .i64 a,.string b,.int .i64 s,.slice A l.length c]] w fun e' w'=>e'=.returned (.bool (dcB ⟨a,b,s,l⟩))/\Below w.heap.size w w':=by
 have gout:=@gA w
 have h0:dcB ⟨a,b,s,l⟩=O:=by simp[dcB];omega
 rw[h0];clear h0;go_enter Tryz.func125,Tryz.ntmps125
 go_upto_region 1 with (fail)
 refine bQ ?_;intro gg;go_wp2_with fail;go_ret;exact⟨aA (by simp),gout _⟩
theorem refDeclForm_k1 (b:ByteArray)(s:Int)(l:List Int){A:Option Addr}{c:Nat}(w:World):
 Calls au 125 #[.agg #[.int .i64 1,.string b,.int .i64 s,.slice A l.length c]] w fun e' w'=>e'=.returned (.bool (dcB ⟨1,b,s,l⟩))/\Below w.heap.size w w':=by
 have gout:=@gA w;go_enter Tryz.func125,Tryz.ntmps125
 go_upto_region 1 with (fail)
 refine bQ ?_;intro gg;go_wp2_with fail
 rcases aH (bM b)with h1 | h1
 all_goals
  refine(aC (g:=gg) (cB h1 gg.W)).mono ?_;rintro _ _ ⟨rfl,gg,rfl⟩
 ·rcases dq s 0 with h2 | h2
  ·have h3:¬0<=s:=by omega
   go_wp2_with fail;go_ret;exact⟨aA (by simp[dcB,h1,h3] <;> (intros;omega)),gout _⟩
  ·have h3:¬s<0:=by omega
   rcases l with _ | ⟨y,r⟩
   all_goals
    (try have h6:((r.length:Int)+1==0)=O:=by simp;omega)
    go_wp2_with fail;go_ret;exact⟨aA (by simp[dcB,h1,h2];try omega),gout _⟩
 ·go_wp2_with fail;go_ret;exact⟨aA (by simp[dcB,h1]),gout _⟩
theorem refDeclForm_k2 (b:ByteArray)(s:Int)(l:List Int){A:Option Addr}{c:Nat}(w:World):
 Calls au 125 #[.agg #[.int .i64 2,.string b,.int .i64 s,.slice A l.length c]] w fun e' w'=>e'=.returned (.bool (dcB ⟨2,b,s,l⟩))/\Below w.heap.size w w':=by
 have gout:=@gA w;go_enter Tryz.func125,Tryz.ntmps125
 go_upto_region 1 with (fail)
 refine bQ ?_;intro gg;go_wp2_with fail
 rcases aH (bM b)with h1 | h1
 all_goals
  refine(aC (g:=gg) (cB h1 gg.W)).mono ?_;rintro _ _ ⟨rfl,gg,rfl⟩
 ·rcases dq s 0 with h2 | h2
  ·have h3:¬0<=s:=by omega
   go_wp2_with fail;go_ret;exact⟨aA (by simp[dcB,h1,h3] <;> (intros;omega)),gout _⟩
  ·have h3:¬s<0:=by omega
   rcases l with _ | ⟨y,r⟩
   all_goals
    (try have h6:((r.length:Int)+1==0)=O:=by simp;omega)
    go_wp2_with fail;go_ret;exact⟨aA (by simp[dcB,h1,h2];try omega),gout _⟩
 ·go_wp2_with fail;go_ret;exact⟨aA (by simp[dcB,h1]),gout _⟩
theorem refDeclForm_k3 (b:ByteArray)(s:Int)(l:List Int){A:Option Addr}{c:Nat}(w:World):
 Calls au 125 #[.agg #[.int .i64 3,.string b,.int .i64 s,.slice A l.length c]] w fun e' w'=>e'=.returned (.bool (dcB ⟨3,b,s,l⟩))/\Below w.heap.size w w':=by
 have gout:=@gA w;go_enter Tryz.func125,Tryz.ntmps125
 go_upto_region 1 with (fail)
 refine bQ ?_;intro gg;go_wp2_with fail
 rcases aH (bM b)with h1 | h1
 all_goals
  refine(aC (g:=gg) (cB h1 gg.W)).mono ?_;rintro _ _ ⟨rfl,gg,rfl⟩
 ·rcases dq s 0 with h2 | h2
  ·have h3:¬0<=s:=by omega
   go_wp2_with fail;go_ret;exact⟨aA (by simp[dcB,h1,h3] <;> (intros;omega)),gout _⟩
  ·have h3:¬s<0:=by omega
   rcases dq 0 s with h4 | h4
   ·rcases l with _ | ⟨y,r⟩
    all_goals
     go_wp2_with fail;go_ret;exact⟨aA (by simp[dcB,h1,h2,h4]),gout _⟩
   ·have h5:¬0<s:=by omega
    rcases l with _ | ⟨y,r⟩
    all_goals
     go_wp2_with fail;go_ret;exact⟨aA (by simp[dcB,h1,h2,h5]),gout _⟩
 ·go_wp2_with fail;go_ret;exact⟨aA (by simp[dcB,h1]),gout _⟩
theorem refDeclForm_k4 (b:ByteArray)(s:Int)(l:List Int){A:Option Addr}{c:Nat}(w:World):
 Calls au 125 #[.agg #[.int .i64 4,.string b,.int .i64 s,.slice A l.length c]] w fun e' w'=>e'=.returned (.bool (dcB ⟨4,b,s,l⟩))/\Below w.heap.size w w':=by
 have gout:=@gA w;go_enter Tryz.func125,Tryz.ntmps125
 go_upto_region 1 with (fail)
 refine bQ ?_;intro gg;go_wp2_with fail
 rcases aH (bM b)with h1 | h1
 all_goals
  refine(aC (g:=gg) (cB h1 gg.W)).mono ?_;rintro _ _ ⟨rfl,gg,rfl⟩
 ·rcases dq s 0 with h2 | h2
  ·have h3:¬0<=s:=by omega
   go_wp2_with fail;go_ret;exact⟨aA (by simp[dcB,h1,h3] <;> (intros;omega)),gout _⟩
  ·have h3:¬s<0:=by omega
   rcases l with _ | ⟨y,r⟩
   all_goals
    (try have h6:((r.length:Int)+1==0)=O:=by simp;omega)
    go_wp2_with fail;go_ret;exact⟨aA (by simp[dcB,h1,h2];try omega),gout _⟩
 ·go_wp2_with fail;go_ret;exact⟨aA (by simp[dcB,h1]),gout _⟩
theorem refDeclForm_k5 (b:ByteArray)(s:Int)(l:List Int){A:Option Addr}{c:Nat}(w:World):
 Calls au 125 #[.agg #[.int .i64 5,.string b,.int .i64 s,.slice A l.length c]] w fun e' w'=>e'=.returned (.bool (dcB ⟨5,b,s,l⟩))/\Below w.heap.size w w':=by
 have gout:=@gA w;go_enter Tryz.func125,Tryz.ntmps125
 go_upto_region 1 with (fail)
 refine bQ ?_;intro gg;go_wp2_with fail
 rcases aH (bM b)with h1 | h1
 all_goals
  refine(aC (g:=gg) (cB h1 gg.W)).mono ?_;rintro _ _ ⟨rfl,gg,rfl⟩
 ·rcases dq s 0 with h2 | h2
  ·have h3:¬0<=s:=by omega
   go_wp2_with fail;go_ret;exact⟨aA (by simp[dcB,h1,h3] <;> (intros;omega)),gout _⟩
  ·have h3:¬s<0:=by omega
   rcases l with _ | ⟨y,r⟩
   all_goals
    (try have h6:((r.length:Int)+1==0)=O:=by simp;omega)
    go_wp2_with fail;go_ret;exact⟨aA (by simp[dcB,h1,h2];try omega),gout _⟩
 ·go_wp2_with fail;go_ret;exact⟨aA (by simp[dcB,h1]),gout _⟩
theorem j6 (x:S70)(A:Option Addr)(c:Nat)(w:World):Calls au 125 #[.agg #[.int .i64 x.f0,.string x.f1,.int .i64 x.f2,.slice A x.f3.length c]] w fun e' w'=>e'=.returned (.bool (dcB x))/\Below w.heap.size w w':=by
 obtain⟨a,b,s,l⟩:=x
 rcases kinds5 a with h | ⟨h,h'⟩ | rfl | rfl | rfl | rfl | rfl
 ·exact kX a h b s l w
 ·exact l8 a h h' b s l w
 ·exact refDeclForm_k1 b s l w
 ·exact refDeclForm_k2 b s l w
 ·exact refDeclForm_k3 b s l w
 ·exact refDeclForm_k4 b s l w
 ·exact refDeclForm_k5 b s l w
end
section
attribute [local go_sem] G.cell
def cI (nm:ByteArray)(wd ln:Int)(ds:List S70)(bd:List S119):Bool:=bM nm&&decide (0<=wd)&&decide (0<=ln)&&(ds.all dcB&&bdB bd)
section
variable {nm:ByteArray}{wd ln:Int}{ds:List S70}{bd:List S119}
theorem form_no1 (h:bM nm=O):cI nm wd ln ds bd=O:=by unfold cI;rw[h];rfl
theorem form_no2 (h:wd<0):cI nm wd ln ds bd=O:=by unfold cI;rw[decide_eq_false (show ¬0<=wd by omega)];simp
theorem form_no3 (h:ln<0):cI nm wd ln ds bd=O:=by unfold cI;rw[decide_eq_false (show ¬0<=ln by omega)];simp
theorem form_yes (h1:bM nm=ac)(h2:0<=wd)(h3:0<=ln):cI nm wd ln ds bd=(ds.all dcB&&bdB bd):=by unfold cI;rw[h1,decide_eq_true h2,decide_eq_true h3];simp
end
theorem iY {l:List S70}{y:S70}(h:y∈l)(hn:dcB y=O):l.all dcB=O:=by
 rw[List.all_eq_false];exact⟨y,h,by rw[hn];decide⟩
theorem iH {l:List S70}{k:Nat}(hlt:k<l.length):aJ l (k:Int)∈l:=by
 unfold aJ;rw[ax,aw,av hlt];exact dz _
theorem lE {l:List S70}(h:∀j,j<l.length->dcB (aJ l (j:Int))=ac):l.all dcB=ac:=by
 rw[ew];intro y hy;obtain⟨j,hj,rfl⟩:=ef hy;have:=h j hj;unfold aJ at this
 rwa [ax,aw,av hj]at this
theorem Form_walk (nm:ByteArray)(wd ln:Int)(ds:List S70)(bd:List S119)(A3:Option Addr)(c3:Nat)(A4:Option Addr)(c4:Nat)(w:World)(hd:k70.C w A3 ds.length ds)(hld:ds.length<=c3)(hb:cU.C w A4 bd.length bd)(hlb:bd.length<=c4):
 Calls au 75 #[.agg #[.string nm,.int .i64 wd,.int .i64 ln,.slice A3 ds.length c3,.slice A4 bd.length c4]] w fun e w'=>e=.returned (.bool (cI nm wd ln ds bd))/\Below w.heap.size w w':=by
 have gout:=@gA w;have goutA:∀{o:Obj} (g:G (w.alloc o)) (o':Obj),Below w.heap.size w (g.W.alloc o'):=fun g o'=>(gout g).alloc (gout g).size o';have hlm:=hd.2.1;have HD:=J hd;have HB:=J hb;have HLB:=J hlb;clear hd hb hlb;go_enter Tryz.func75,Tryz.ntmps75
 go_upto_region 1 with (fail)
 refine bQ ?_;intro gg;go_wp2_with fail
 rcases aH (bM nm)with h1 | h1
 all_goals
  refine(aC (g:=gg) (dZ h1 gg.W)).mono ?_;rintro _ _ ⟨rfl,gg,rfl⟩
 ·rcases dq wd 0 with h2 | h2
  ·go_wp2_with fail;go_ret;exact⟨aA (form_no2 h2).symm,gout _⟩
  rcases dq ln 0 with h3 | h3
  ·have h2':¬wd<0:=by omega
   go_wp2_with fail;go_ret;exact⟨aA (form_no3 h3).symm,gout _⟩
  ·have h2':¬wd<0:=by omega
   have h3':¬ln<0:=by omega
   have FY:=J (form_yes (ds:=ds) (bd:=bd) h1 h2 h3);clear h2 h3
   go_wp2
   clear h1 h2' h3'
   go_loopw [22] (fun i W=>∃(k:Nat) (g:G (gw gg)),i=.int .i64 k/\W=g.W/\k<=ds.length/\Aside0 (∀j,j<k->dcB (aJ ds (j:Int))=ac)) (fun i _=>ds.length - (intOf i).toNat)
   case atStart=>exact⟨0,gg,rfl,rfl,br _,⟨fun j hj=>absurd hj (dn _)⟩⟩
   case round=>
    obtain⟨k,g,rfl,rfl,hk,HK⟩:=hrel
    by_cases hlt:k<ds.length
    ·obtain⟨ad,A3',c3',e1,q0,q1,q2,q3,l3,g3⟩:=d6 HD.out (k:Int) (bc _) (by omega);cases e1;rw[ax]at q0 q1 q2 q3;replace q0:=((gout g).cell (ah w _ q0)).trans q0;replace q1:=((gout g).cell (ah w _ q1)).trans q1;replace q2:=((gout g).cell (ah w _ q2)).trans q2;replace q3:=((gout g).cell (ah w _ q3)).trans q3
     have hi1:(k:Int)<(ds.length:Int):=by omega
     have MEM:=J (iH hlt)
     rcases aH (dcB (aJ ds (k:Int)))with hy | hy
     all_goals
      have HY:=J hy;clear hy;go_wp2_with fail;refine(bL (g:=g) (declForm_calls (aJ ds (k:Int)) A3' c3' _)).mono ?_;rw[HY.out];rintro _ _ ⟨rfl,gg,rfl⟩
      go_wp2
     ·refine⟨⟨k+1,gg,by go_num,rfl,by omega,⟨fun j hj=> ?_⟩⟩,by simp[intOf];omega⟩
      by_cases hj2:j=k
      ·rw[hj2];exact HY.out
      ·exact HK.out j (by omega)
     ·go_ret;exact⟨aA (by rw[FY.out,iY MEM.out HY.out];rfl),gout _⟩
    ·have hall:=J (lE (fun j hj=>HK.out j (by omega)));clear HK;go_wp2_with fail;refine(aC (g:=g) (bodyForm_calls bd A4 c4 _ (Kd.aF HB.out (gout g)) HLB.out)).mono ?_;rintro _ _ ⟨rfl,gg,rfl⟩
     go_wp2
     go_ret;exact⟨aA (by rw[FY.out,hall.out];rfl),gout _⟩
 ·go_wp2_with fail;go_ret;exact⟨aA (form_no1 h1).symm,gout _⟩
theorem refForm_walk (nm:ByteArray)(wd ln:Int)(ds:List S70)(bd:List S119)(A3:Option Addr)(c3:Nat)(A4:Option Addr)(c4:Nat)(w:World)(hd:k70.C w A3 ds.length ds)(hld:ds.length<=c3)(hb:cU.C w A4 bd.length bd)(hlb:bd.length<=c4):
 Calls au 78 #[.agg #[.string nm,.int .i64 wd,.int .i64 ln,.slice A3 ds.length c3,.slice A4 bd.length c4]] w fun e w'=>e=.returned (.bool (cI nm wd ln ds bd))/\Below w.heap.size w w':=by
 have gout:=@gA w;have goutA:∀{o:Obj} (g:G (w.alloc o)) (o':Obj),Below w.heap.size w (g.W.alloc o'):=fun g o'=>(gout g).alloc (gout g).size o';have hlm:=hd.2.1;have HD:=J hd;have HB:=J hb;have HLB:=J hlb;clear hd hb hlb;go_enter Tryz.func78,Tryz.ntmps78
 go_upto_region 1 with (fail)
 refine bQ ?_;intro gg;go_wp2_with fail
 rcases aH (bM nm)with h1 | h1
 all_goals
  refine(aC (g:=gg) (cB h1 gg.W)).mono ?_;rintro _ _ ⟨rfl,gg,rfl⟩
 ·rcases dq wd 0 with h2 | h2
  ·go_wp2_with fail;go_ret;exact⟨aA (form_no2 h2).symm,gout _⟩
  rcases dq ln 0 with h3 | h3
  ·have h2':¬wd<0:=by omega
   go_wp2_with fail;go_ret;exact⟨aA (form_no3 h3).symm,gout _⟩
  ·have h2':¬wd<0:=by omega
   have h3':¬ln<0:=by omega
   have FY:=J (form_yes (ds:=ds) (bd:=bd) h1 h2 h3);clear h2 h3
   go_wp2
   clear h1 h2' h3'
   go_loopw [3] (fun i W=>∃(k:Nat) (g:G (gw gg)),i=.int .i64 k/\W=g.W/\k<=ds.length/\Aside0 (∀j,j<k->dcB (aJ ds (j:Int))=ac)) (fun i _=>ds.length - (intOf i).toNat)
   case atStart=>exact⟨0,gg,rfl,rfl,br _,⟨fun j hj=>absurd hj (dn _)⟩⟩
   case round=>
    obtain⟨k,g,rfl,rfl,hk,HK⟩:=hrel
    by_cases hlt:k<ds.length
    ·obtain⟨ad,A3',c3',e1,q0,q1,q2,q3,l3,g3⟩:=d6 HD.out (k:Int) (bc _) (by omega);cases e1;rw[ax]at q0 q1 q2 q3;replace q0:=((gout g).cell (ah w _ q0)).trans q0;replace q1:=((gout g).cell (ah w _ q1)).trans q1;replace q2:=((gout g).cell (ah w _ q2)).trans q2;replace q3:=((gout g).cell (ah w _ q3)).trans q3
     have hi1:(k:Int)<(ds.length:Int):=by omega
     have MEM:=J (iH hlt)
     rcases aH (dcB (aJ ds (k:Int)))with hy | hy
     all_goals
      have HY:=J hy;clear hy;go_wp2_with fail;refine(aC (g:=g) (j6 (aJ ds (k:Int)) A3' c3' _)).mono ?_;rw[HY.out];rintro _ _ ⟨rfl,gg,rfl⟩
      go_wp2
     ·refine⟨⟨k+1,gg,by go_num,rfl,by omega,⟨fun j hj=> ?_⟩⟩,by simp[intOf];omega⟩
      by_cases hj2:j=k
      ·rw[hj2];exact HY.out
      ·exact HK.out j (by omega)
     ·go_ret;exact⟨aA (by rw[FY.out,iY MEM.out HY.out];rfl),gout _⟩
    ·have hall:=J (lE (fun j hj=>HK.out j (by omega)));clear HK;go_wp2_with fail;refine(aC (g:=g) (mE bd A4 c4 _ (Kd.aF HB.out (gout g)) HLB.out)).mono ?_;rintro _ _ ⟨rfl,gg,rfl⟩
     go_wp2
     go_ret;exact⟨aA (by rw[FY.out,hall.out];rfl),gout _⟩
 ·go_wp2_with fail;go_ret;exact⟨aA (form_no1 h1).symm,gout _⟩
end
section
attribute [local go_sem] G.cell
mutual
def d5:S116->Nat
 | ⟨_,_,_,l⟩=>eZ l+1
def eZ:List S116->Nat
 | []=>0
 |x::r=>max (d5 x) (eZ r)
end
theorem kK (x:S116):d5 x=eZ x.f3+1:=by
 obtain⟨a,b,s,l⟩:=x;rw[d5]
theorem lV (l:List S116)(x:S116):eZ (l++[x])=max (eZ l) (d5 x):=by
 induction l with
 |nil=>simp[eZ]
 |cons y r ih=>rw[fc,eZ,ih,eZ];omega
theorem deepL_mem {l:List S116}{x:S116}(h:x∈l):d5 x<=eZ l:=by
 induction l with
 |nil=>cases h
 |cons y r ih=>
  rw[eZ]
  rcases cg.1 h with rfl | h
  ·omega
  ·have:=ih h;omega
theorem cP {l:List S116}{k:Nat}(hlt:k<l.length):l.take (k+1)=l.take k++[bF l (k:Int)]:=by
 unfold bF;rw[ax,aw,av hlt,List.take_add_one,av hlt];rfl
theorem gX {l:List S116}{k:Nat}(hlt:k<l.length):bF l (k:Int)∈l:=by
 unfold bF;rw[ax,aw,av hlt];exact dz _
theorem fO {l:List S116}{x:S116}{n:Nat}(hx:x.f3=l){y:S116}(hy:y∈l)(h:cu x<=n+1):cu y<=n:=by
 have:=fe hy;obtain⟨a,b,c,l⟩:=x
 simp at h hx
 subst hx;omega
theorem fP {n:Nat}(h:n<9223372036854775807):wrap64 ((n:Int)+1)=((n+1:Nat):Int):=by unfold wrap64;omega
abbrev gw0 {w:World}(_:G w):World:=w
theorem aG {P:Program}{c:Code}{Q:Exit->Act->World->Prop}{a:Act}{w:World}(h:∀g:G w,c.wp P Q a g.W):c.wp P Q a w:=h ⟨w,ak _ _⟩
def ExprC (f:FuncId)(x:S116)(r:Int):Prop:=∀(A:Option Addr) (c:Nat) (w:World),cH.C w A x.f3.length x.f3->x.f3.length<=c->
 Calls au f #[.agg #[.int .i64 x.f0,.int .u64 x.f1,.string x.f2,.slice A x.f3.length c]] w fun e w'=>e=.returned (.int .i64 r)/\Below w.heap.size w w'
theorem deep_walk (x:S116)(hb:d5 x<=1099511627776)(ih:∀y∈x.f3,ExprC 245 y (d5 y)):ExprC 245 x (d5 x):=by
 intro A c w hc hl;have gout:=@gA w;rw[kK]at hb ⊢;obtain⟨x0,x1,x2,l⟩:=x;simp only at*;have IH:=J ih;have HC:=J hc;have HB:=J hb;have hlm:=hc.2.1;clear ih hc hb;go_enter Tryz.func245,Tryz.ntmps245
 go_upto_region 1 with (fail)
 refine aG ?_;intro gg
 go_wp2
 go_loopw [4,3] (fun i n W=>∃(k:Nat) (g:G (gw0 gg)),i=.int .i64 k/\n=.int .i64 (eZ (l.take k))/\W=g.W/\k<=l.length) (fun i n _=>l.length - (intOf i).toNat)
 case atStart=>exact⟨0,gg,rfl,rfl,rfl,br _⟩
 case round=>
  obtain⟨k,g,rfl,rfl,rfl,hk⟩:=hrel
  by_cases hlt:k<l.length
  ·obtain⟨ad,A3,c3,e1,q0,q1,q2,q3,l3,g3⟩:=iR HC.out (k:Int) (bc _) (by omega);cases e1;rw[ax]at q0 q1 q2 q3;replace q0:=((gout g).cell (ah w _ q0)).trans q0;replace q1:=((gout g).cell (ah w _ q1)).trans q1;replace q2:=((gout g).cell (ah w _ q2)).trans q2;replace q3:=((gout g).cell (ah w _ q3)).trans q3
   have hi1:(k:Int)<(l.length:Int):=by omega
   have G3:=J g3;have L3:=J l3;clear g3 l3;have MEM:=J (gX hlt);have T:=J (congrArg eZ (cP hlt));go_wp2_with fail;refine(aC (g:=g) (IH.out _ MEM.out A3 c3 g.W (Kd.aF G3.out (gout g)) L3.out)).mono ?_;rintro _ _ ⟨rfl,gg2,rfl⟩
   rcases gh (eZ (l.take k)) (d5 (bF l (k:Int)))with h | h
   ·have h2:(eZ (l.take k):Int)<(d5 (bF l (k:Int)):Int):=by omega
    go_wp2_with fail;have T2:=T.out;rw[lV]at T2;exact⟨⟨k+1,gg2,by go_num,by rw[T2,Nat.max_eq_right (Nat.le_of_lt h)],rfl,by omega⟩,by simp[intOf];omega⟩
   ·have h2:¬(eZ (l.take k):Int)<(d5 (bF l (k:Int)):Int):=by omega
    go_wp2_with fail;have T2:=T.out;rw[lV]at T2;exact⟨⟨k+1,gg2,by go_num,by rw[T2,Nat.max_eq_left h],rfl,by omega⟩,by simp[intOf];omega⟩
  ·have W:=J (fP (n:=eZ l) (by have:=HB.out;omega));go_wp2_with fail;go_ret;refine⟨?_,gout g⟩;rw[show k=l.length by omega,df,W.out];rfl
theorem deep_calls:∀(n:Nat) (x:S116),cu x<=n->d5 x<=1099511627776->ExprC 245 x (d5 x):=by
 intro n
 induction n with
 |zero=>intro x h;obtain⟨a,b,c,l⟩:=x;simp at h
 |succ n ih=>
  intro x h hb;exact deep_walk x hb fun y hy=>ih y (fO rfl hy h) (by have:=deepL_mem hy;rw[kK]at hb;omega)
end
end Go.Proofs.YtfigjpehecibeaaGreat.L
namespace Go.Proofs.YtfigjpehecibeaaGreat.L
open Go.RowKit Go.Proofs.YtfigjpehecibeaaGreatW.PrintWords Go.Proofs.YtfigjpehecibeaaGreatW.PrintLast Go.Proofs.YtfigjpehecibeaaGreatW.PrintMore
section
attribute [local go_sem] gZ gY j4 jZ fJ fM iG iE
def cadenceref16_in.l0:Nat->List ByteArray->ByteArray->Int->Option (Bool)
 |0,_,_,_=>aj
 |k+1,x0,x1,x5=>if x5<(x0.length:Int)then(if 0<=x5 then(if(kJ ba x0 x5).toList=x1.toList then(ae ac)else(cadenceref16_in.l0 k x0 x1 (wrap64 (x5+1))))else(aj))else(ae O)
def cadenceref16_in.f (k:Nat)(l0:List ByteArray)(a1:ByteArray):Option (Bool):=cadenceref16_in.l0 k l0 a1 0
theorem cadenceref16_in.calls (k:Nat)(A0:Option Addr)(c0:Nat)(l0:List ByteArray)(a1:ByteArray)(r:Bool)(w:World)(hr0:Kd.C Kd.string w A0 l0.length l0)(hc0:l0.length<=c0)(h:cadenceref16_in.f k l0 a1=ae r):
 Calls au 131 #[.slice A0 l0.length c0,.string a1] w fun e w'=>e=.returned (.bool r)/\Drawn0 w w':=by
 have HR0:=J hr0;have HC0:=J hc0;clear hr0 hc0;have H:(cadenceref16_in.l0 k l0 a1 0)=ae r:=h;clear h;have H':=J H;clear H;go_enter Tryz.func131,Tryz.ntmps131
 go_wp2
 go_loopg [5] k (fun kq v5 w'=>∃(x5_1:Int),v5=.int .i64 x5_1/\Aside0 (cadenceref16_in.l0 kq l0 a1 x5_1=ae r)/\Aside0 (kq<=k)/\Drawn0 w w')
 case atStart=>exact⟨(0),(by first | rfl | (simp;done) | (simp[*];done)),H',⟨ai _⟩,by repeat(first | exact dh _ | apply di)⟩
 case round=>
  clear H'
  try clear p2
  obtain⟨x5_1,rfl,HA,HK1,⟨m1,rfl⟩⟩:=hrel
  cases gk with
  |zero=>exact absurd HA.out (by simp[cadenceref16_in.l0])
  |succ k1=>
   have H:=HA.out;clear HA;simp only[cadenceref16_in.l0]at H
   by_cases c3:x5_1<(l0.length:Int)
   ·rw[if_pos c3]at H;have c3b0:decide (x5_1<(l0.length:Int))=ac:=decide_eq_true c3;clear c3
    by_cases c4:0<=x5_1
    ·rw[if_pos c4]at H;have c4b0:decide (0<=x5_1)=ac:=decide_eq_true c4;clear c4
     by_cases c5:(kJ ba l0 x5_1).toList=a1.toList
     ·rw[if_pos c5]at H;have c5b0:((kJ ba l0 x5_1).toList==a1.toList)=ac:=beq_iff_eq.mpr c5;have c5b1:((kJ ba l0 x5_1).toList != a1.toList)=O:=bne_eq_false_iff_eq.mpr c5;clear c5;obtain rfl:=cn H;have p193:0<=(x5_1:Int):=of_decide_eq_true (by first | (with_reducible assumption) | assumption);have q193:x5_1<(l0.length:Int):=of_decide_eq_true (by first | (with_reducible assumption) | assumption);obtain⟨ad193,e193,hx193_0⟩:=Kd.dY HR0.out x5_1 p193 q193;cases e193;replace p193:=eq_true p193;replace q193:=eq_true q193
      go_wp2
      go_ret;exact⟨by first | rfl | (simp;done) | (simp[*];done),by repeat(first | exact dh _ | apply di)⟩
     ·rw[if_neg c5]at H;have c5b0:((kJ ba l0 x5_1).toList==a1.toList)=O:=beq_eq_false_iff_ne.mpr c5;have c5b1:((kJ ba l0 x5_1).toList != a1.toList)=ac:=bne_iff_ne.mpr c5;have H':=J H;clear H;have p193:0<=(x5_1:Int):=of_decide_eq_true (by first | (with_reducible assumption) | assumption);have q193:x5_1<(l0.length:Int):=of_decide_eq_true (by first | (with_reducible assumption) | assumption);obtain⟨ad193,e193,hx193_0⟩:=Kd.dY HR0.out x5_1 p193 q193;cases e193;replace p193:=eq_true p193;replace q193:=eq_true q193
      go_wp2
      go_roundg k1
      case measure=>have:=HK1.out;omega
      case rel=>exact⟨(wrap64 (x5_1+1)),(by first | rfl | (simp;done) | (simp[*];done)),H',⟨by have:=HK1.out;omega⟩,by repeat(first | exact dh _ | apply di)⟩
    ·rw[if_neg c4]at H;exact absurd H (by simp)
   ·rw[if_neg c3]at H;have c3b0:decide (x5_1<(l0.length:Int))=O:=decide_eq_false c3;clear c3;obtain rfl:=cn H
    go_wp2
    go_ret;exact⟨by first | rfl | (simp;done) | (simp[*];done),by repeat(first | exact dh _ | apply di)⟩
def wf_plus.l0:Nat->Int->List Int->Int->Int->Option (Int)
 |0,_,_,_,_=>aj
 |k+1,x3,x6,x7,x8=>if x8<x7 then(if 0<=x8 then(if x8<(x6.length:Int)then(wf_plus.l0 k (mn (wrap64 (x3+(rd x6 x8))) 1099511627776) x6 x7 (wrap64 (x8+1)))else(aj))else(aj))else(ae x3)
def wf_plus.f (k:Nat)(l0:List Int):Option (Int):=wf_plus.l0 k 0 l0 (l0.length:Int) 0
theorem wf_plus.calls (k:Nat)(A0:Option Addr)(c0:Nat)(l0:List Int)(r:Int)(w:World)(hr0:Kd.C (Kd.int .i64) w A0 l0.length l0)(hc0:l0.length<=c0)(h:wf_plus.f k l0=ae r):
 Calls au 155 #[.slice A0 l0.length c0] w fun e w'=>e=.returned (.int .i64 r)/\Below w.heap.size w w':=by
 have HR0:=J hr0;have HC0:=J hc0;clear hr0 hc0;have HB:=J (ak w.heap.size w);have H:(wf_plus.l0 k 0 l0 (l0.length:Int) 0)=ae r:=h;clear h;have H':=J H;clear H;go_enter Tryz.func155,Tryz.ntmps155
 go_wp2
 go_loopg [3,8] k (fun kq v3 v8 w'=>∃(x3_1:Int) (x8_1:Int),v3=.int .i64 x3_1/\v8=.int .i64 x8_1/\Aside0 (wf_plus.l0 kq x3_1 l0 (l0.length:Int) x8_1=ae r)/\Aside0 (kq<=k)/\Aside0 (Below w.heap.size w w'))
 case atStart=>exact⟨(0),(0),(by first | rfl | (simp;done) | (simp[*];done)),(by first | rfl | (simp;done) | (simp[*];done)),H',⟨ai _⟩,⟨by repeat(first | (with_reducible first | exact HB.out | apply bC | apply aV | apply bI) | exact HB.out)⟩⟩
 case round=>
  clear H';obtain⟨x3_1,x8_1,rfl,rfl,HA,HK1,HB⟩:=hrel
  cases gk with
  |zero=>exact absurd HA.out (by simp[wf_plus.l0])
  |succ k1=>
   have H:=HA.out;clear HA;simp only[wf_plus.l0]at H
   by_cases c2:x8_1<(l0.length:Int)
   ·rw[if_pos c2]at H;have c2b0:decide (x8_1<(l0.length:Int))=ac:=decide_eq_true c2;clear c2
    by_cases c3:0<=x8_1
    ·rw[if_pos c3]at H;have c3b0:decide (0<=x8_1)=ac:=decide_eq_true c3;clear c3
     by_cases c4:x8_1<(l0.length:Int)
     ·rw[if_pos c4]at H;have c4b0:decide (x8_1<(l0.length:Int))=ac:=decide_eq_true c4;clear c4;obtain⟨ji5,hji5⟩:∃j_:Int,(mn (wrap64 (x3_1+(rd l0 x8_1))) 1099511627776)=j_:=⟨_,rfl⟩
      replace H:(wf_plus.l0 k1 ji5 l0 (l0.length:Int) (wrap64 (x8_1+1)))=ae r:=by first | (rw[hji5]at H;exact H) | (simp only[hji5]at H ⊢;exact H)
      have hji5_:(if 1099511627776<(wrap64 (x3_1+(rd l0 x8_1)))then 1099511627776 else(wrap64 (x3_1+(rd l0 x8_1))))=ji5:=hji5;have H':=J H;clear H;have p237:0<=(x8_1:Int):=of_decide_eq_true (by first | (with_reducible assumption) | assumption);have q237:x8_1<(l0.length:Int):=of_decide_eq_true (by first | (with_reducible assumption) | assumption);obtain⟨ad237,e237,hx237_0⟩:=Kd.at_int HR0.out x8_1 p237 q237;cases e237;replace hx237_0:=(HB.out.cell (ah w _ hx237_0)).trans hx237_0;replace p237:=eq_true p237;replace q237:=eq_true q237
      go_wp2
      go_roundg k1
      case measure=>have:=HK1.out;omega
      case rel=>exact⟨(ji5),(wrap64 (x8_1+1)),(by first | rfl | (simp;done) | (simp only[←hji5] <;> (first | rfl | simp)) | (simp[*];done)),(by first | rfl | (simp;done) | (simp[*];done)),H',⟨by have:=HK1.out;omega⟩,⟨by repeat(first | (with_reducible first | exact HB.out | apply bC | apply aV | apply bI) | exact HB.out)⟩⟩
     ·rw[if_neg c4]at H;exact absurd H (by simp)
    ·rw[if_neg c3]at H;exact absurd H (by simp)
   ·rw[if_neg c2]at H;have c2b0:decide (x8_1<(l0.length:Int))=O:=decide_eq_false c2;clear c2;obtain rfl:=cn H
    go_wp2
    go_ret;exact⟨by first | rfl | (simp[bZ,cA] <;> rfl) | (simp[*,bZ,cA] <;> rfl),by repeat(first | (with_reducible first | exact HB.out | apply bC | apply aV | apply bI) | exact HB.out)⟩
end
end Go.Proofs.YtfigjpehecibeaaGreat.L
namespace Go.Proofs.YtfigjpehecibeaaGreat.L
open Go.RowKit Go.Proofs.YtfigjpehecibeaaGreatW.PrintWords Go.Proofs.YtfigjpehecibeaaGreatW.PrintLast Go.Proofs.YtfigjpehecibeaaGreatW.PrintMore Go.Proofs.YtfigjpehecibeaaGreat.Gr
section
attribute [local go_sem] G.cell
attribute [local go_sem] gZ gY j4 jZ fJ fM iG iE
theorem max_val (a b:Nat):(if a<b then(b:Int)else(a:Int))=((max a b:Nat):Int):=by split <;> omega
theorem depth_walk (x:S116)(hb:d5 x<=1099511627776)(ih:∀y∈x.f3,ExprC 192 y (d5 y)):ExprC 192 x (d5 x):=by
 intro A c w hc hl;have gout:=@gA w;rw[kK]at hb ⊢;obtain⟨x0,x1,x2,l⟩:=x;simp only at*;have IH:=J ih;have HC:=J hc;have HB:=J hb;have hlm:=hc.2.1;clear ih hc hb;go_enter Tryz.func192,Tryz.ntmps192
 go_upto_region 1 with (fail)
 refine aG ?_;intro gg
 go_wp2
 go_loopw [9,3] (fun i n W=>∃(k:Nat) (g:G (gw0 gg)),i=.int .i64 k/\n=.int .i64 (eZ (l.take k))/\W=g.W/\k<=l.length) (fun i n _=>l.length - (intOf i).toNat)
 case atStart=>exact⟨0,gg,rfl,rfl,rfl,br _⟩
 case round=>
  obtain⟨k,g,rfl,rfl,rfl,hk⟩:=hrel
  by_cases hlt:k<l.length
  ·obtain⟨ad,A3,c3,e1,q0,q1,q2,q3,l3,g3⟩:=iR HC.out (k:Int) (bc _) (by omega);cases e1;rw[ax]at q0 q1 q2 q3;replace q0:=((gout g).cell (ah w _ q0)).trans q0;replace q1:=((gout g).cell (ah w _ q1)).trans q1;replace q2:=((gout g).cell (ah w _ q2)).trans q2;replace q3:=((gout g).cell (ah w _ q3)).trans q3
   have hi1:(k:Int)<(l.length:Int):=by omega
   have G3:=J g3;have L3:=J l3;clear g3 l3;have MEM:=J (gX hlt);have T:=J (congrArg eZ (cP hlt));go_wp2_with fail;refine(bL (g:=g) (IH.out _ MEM.out A3 c3 _ (Kd.aF G3.out ((gout g).alloc (gout g).size _)) L3.out)).mono ?_;rintro _ _ ⟨rfl,gg2,rfl⟩;go_wp2_with fail;have T2:=T.out;rw[lV]at T2;exact⟨⟨k+1,gg2,by go_num,by rw[T2,←max_val],rfl,by omega⟩,by simp[intOf];omega⟩
  ·have W:=J (fP (n:=eZ l) (by have:=HB.out;omega));go_wp2_with fail;go_ret;refine⟨?_,gout g⟩;rw[show k=l.length by omega,df,W.out];rfl
theorem depth_calls:∀(n:Nat) (x:S116),cu x<=n->d5 x<=1099511627776->ExprC 192 x (d5 x):=by
 intro n
 induction n with
 |zero=>intro x h;obtain⟨a,b,c,l⟩:=x;simp at h
 |succ n ih=>
  intro x h hb;exact depth_walk x hb fun y hy=>ih y (fO rfl hy h) (by have:=deepL_mem hy;rw[kK]at hb;omega)
mutual
def aO:S116->Nat
 | ⟨_,_,_,l⟩=>1+bD l
def bD:List S116->Nat
 | []=>0
 |x::r=>aO x+bD r
end
theorem eC (x:S116):aO x=1+bD x.f3:=by
 obtain⟨a,b,s,l⟩:=x;rw[aO]
theorem dR (l:List S116)(x:S116):bD (l++[x])=bD l+aO x:=by
 induction l with
 |nil=>simp[bD]
 |cons y r ih=>rw[fc,bD,ih,bD];omega
theorem weightL_mem {l:List S116}{x:S116}(h:x∈l):aO x<=bD l:=by
 induction l with
 |nil=>cases h
 |cons y r ih=>
  rw[bD]
  rcases cg.1 h with rfl | h
  ·omega
  ·have:=ih h;omega
theorem fD (l:List S116)(k:Nat):bD (l.take k)<=bD l:=by
 induction l generalizing k with
 |nil=>simp[bD]
 |cons y r ih=>
  cases k with
  |zero=>simp[bD]
  |succ k=>rw[List.take_succ_cons,bD,bD];have:=ih k;omega
theorem wrap_add {a b:Nat}(h:a+b<9223372036854775807):wrap64 ((a:Int)+(b:Int))=((a+b:Nat):Int):=by unfold wrap64;omega
theorem plus_sum:∀(d:Nat) (l:List Int) (i k:Nat) (s:Nat),(∀x∈l,0<=x)->i+d=l.length->d<k->(s:Int)+(l.drop i).sum<=1099511627776->l.length<100->
 wf_plus.l0 k (s:Int) l (l.length:Int) (i:Int)=ae ((s:Int)+(l.drop i).sum):=by
 intro d
 induction d with
 |zero=>
  intro l i k s hp h hk hs _;obtain⟨k,rfl⟩:∃a,k=a+1:=⟨k - 1,by omega⟩;rw[wf_plus.l0,if_neg (by omega),gr (by omega)];simp
 |succ d ih=>
  intro l i k s hp h hk hs hl;obtain⟨k,rfl⟩:∃a,k=a+1:=⟨k - 1,by omega⟩
  have hi:i<l.length:=by omega
  have e:wrap64 ((i:Int)+1)=((i+1:Nat):Int):=by unfold wrap64;omega
  have er:rd l (i:Int)=l[i]:=by simp[rd,aw,hi]
  have hd:l.drop i=l[i]::l.drop (i+1):=dw hi;have hx:=hp _ (dz hi)
  have hr:0<=(l.drop (i+1)).sum:=by
   have:∀q:List Int,(∀x∈q,0<=x)->0<=q.sum:=by
    intro q
    induction q with
    |nil=>simp
    |cons a r ih=>intro h;rw[List.sum_cons];have:=h a (by simp);have:=ih fun x hx=>h x (by simp[hx]);omega
   exact this _ fun x hx=>hp x (List.mem_of_mem_drop hx)
  rw[hd,List.sum_cons]at hs ⊢;obtain⟨x,hxn⟩:∃x:Nat,l[i]=(x:Int):=⟨l[i].toNat,by omega⟩;rw[wf_plus.l0,if_pos (by omega),if_pos (by omega),if_pos (by omega),e,er,hxn,wrap_add (by omega)];rw[hxn]at hs
  have hm:mn ((s+x:Nat):Int) 1099511627776=((s+x:Nat):Int):=by unfold mn;split <;> omega
  rw[hm,ih l (i+1) k (s+x) hp (by omega) (by omega) (by push_cast;omega) hl]
  congr 1
  push_cast
  omega
theorem plus_calls (l:List Int)(A:Option Addr)(c:Nat)(w:World)(hp:∀x∈l,0<=x)(hs:l.sum<=1099511627776)(hl:l.length<100)(hr:Kd.C (Kd.int .i64) w A l.length l)(hc:l.length<=c):
 Calls au 155 #[.slice A l.length c] w fun e w'=>e=.returned (.int .i64 l.sum)/\Below w.heap.size w w':=
 wf_plus.calls 101 A c l l.sum w hr hc (by
  have:=plus_sum l.length l 0 101 0 hp (by omega) (by omega) (by simpa using hs) hl;unfold wf_plus.f
  simpa using this)
end
section
attribute [local go_sem] G.cell
theorem lit_ints (w:World)(xs:List Int)(e:TypeId)(hm:xs.length<=100):Kd.C (Kd.int .i64) (w.alloc (.cells (xs.map (Value.int .i64)).toArray e)) (ae ⟨w.heap.size,0,aj⟩) xs.length xs:=by
 refine⟨rfl,by omega,fun _=>⟨_,rfl,fun i v hv=>⟨[.int .i64 v],rfl,rfl,fun j u hu=> ?_⟩⟩⟩
 have hj:j=0:=by
  have:=(cz.1 hu).1
  simp at this;omega
 subst hj
 simp at hu
 subst hu;have hi:=(cz.1 hv).1;have hv2:=(cz.1 hv).2;simp only[go_sem,Addr.add,hv];rw[show(Kd.int IntKind.i64).sz=1 from rfl,Nat.mul_one,fg]
 split
 ·next h=>subst h;rw[World.cell?_alloc_new];simp[hv]
 ·rw[Nat.zero_add,World.cell?_alloc_new];simp[hv]
theorem weigh_walk (x:S116)(hb:aO x<=1099511627776)(ih:∀y∈x.f3,ExprC 156 y (aO y)):ExprC 156 x (aO x):=by
 intro A c w hc hl;have gout:=@gA w;rw[eC]at hb ⊢;obtain⟨x0,x1,x2,l⟩:=x;simp only at*;have IH:=J ih;have HC:=J hc;have HB:=J hb;have hlm:=hc.2.1;clear ih hc hb;go_enter Tryz.func156,Tryz.ntmps156
 go_upto_region 1 with (fail)
 refine aG ?_;intro gg
 go_wp2
 go_loopw [9,3] (fun i n W=>∃(k:Nat) (g:G (gw0 gg)),i=.int .i64 k/\(∃m:Nat,n=.int .i64 m/\m=1+bD (l.take k))/\W=g.W/\k<=l.length) (fun i n _=>l.length - (intOf i).toNat)
 case atStart=>exact⟨0,gg,rfl,⟨1,rfl,rfl⟩,rfl,br _⟩
 case round=>
  obtain⟨k,g,rfl,⟨m,rfl,hm⟩,rfl,hk⟩:=hrel;have M:=J hm;clear hm
  by_cases hlt:k<l.length
  ·obtain⟨ad,A3,c3,e1,q0,q1,q2,q3,l3,g3⟩:=iR HC.out (k:Int) (bc _) (by omega);cases e1;rw[ax]at q0 q1 q2 q3;replace q0:=((gout g).cell (ah w _ q0)).trans q0;replace q1:=((gout g).cell (ah w _ q1)).trans q1;replace q2:=((gout g).cell (ah w _ q2)).trans q2;replace q3:=((gout g).cell (ah w _ q3)).trans q3
   have hi1:(k:Int)<(l.length:Int):=by omega
   have G3:=J g3;have L3:=J l3;clear g3 l3;have MEM:=J (gX hlt);have T:=J (congrArg bD (cP hlt));go_wp2_with fail;refine(bL (g:=g) (IH.out _ MEM.out A3 c3 _ (Kd.aF G3.out ((gout g).alloc (gout g).size _)) L3.out)).mono ?_;rintro _ _ ⟨rfl,gg2,rfl⟩;go_wp2_with fail;refine(bL (g:=gg2) (plus_calls [(m:Int),(aO (bF l (k:Int)):Int)] (ae ⟨gg2.W.heap.size,0,aj⟩) 2 _ (by simp) (by have t:=T.out;rw[dR]at t;have:=fD l (k+1);have:=HB.out;have:=M.out;simp;omega) (by simp) (lit_ints _ _ _ (by simp)) (by simp))).mono ?_;rintro _ _ ⟨rfl,gg3,rfl⟩;go_wp2_with fail;exact⟨⟨k+1,gg3,by go_num,⟨m+aO (bF l (k:Int)),by simp,by have t:=T.out;rw[dR]at t;rw[t,M.out];omega⟩,rfl,by omega⟩,by simp[intOf];omega⟩
  ·go_wp2_with fail;go_ret;refine⟨?_,gout g⟩;rw[M.out,show k=l.length by omega,df];rfl
theorem weigh_calls:∀(n:Nat) (x:S116),cu x<=n->aO x<=1099511627776->ExprC 156 x (aO x):=by
 intro n
 induction n with
 |zero=>intro x h;obtain⟨a,b,c,l⟩:=x;simp at h
 |succ n ih=>
  intro x h hb;exact weigh_walk x hb fun y hy=>ih y (fO rfl hy h) (by have:=weightL_mem hy;rw[eC]at hb;omega)
end
end Go.Proofs.YtfigjpehecibeaaGreat.L
namespace Go.Proofs.YtfigjpehecibeaaGreat.Ot
open Go.RowKit Go.Proofs.YtfigjpehecibeaaGreat.L Go.Proofs.YtfigjpehecibeaaGreatW.PrintWords Go.Proofs.YtfigjpehecibeaaGreatW.PrintLast Go.Proofs.YtfigjpehecibeaaGreatW.PrintMore Go.Proofs.YtfigjpehecibeaaGreat.Op
theorem all_sum {H:Type}(l:List (DataW H)):Rows.uptoBulkAll l=(l.map Rows.uptoBulk).sum:=by
 induction l with
 |nil=>rfl
 |cons d r ih=>simp[Rows.uptoBulkAll,ih]
theorem bulk {H:Type}:Bulk (Rows.uptoBulk (H:=H)) where
 str:=fun l=>by simp[Rows.uptoBulk]
 one:=fun d=>by
  cases d with
  |lit l=>cases l <;> simp[Rows.uptoBulk]
  |nil=>simp[Rows.uptoBulk]
  |ptr d=>simp[Rows.uptoBulk]
  |slice elems spare=>simp[Rows.uptoBulk]
  |agg parts=>simp[Rows.uptoBulk]
  |iface t d=>simp[Rows.uptoBulk]
  |map entries=>simp[Rows.uptoBulk]
  |held h=>simp[Rows.uptoBulk]
 slice:=fun es ss=>by simp only[Rows.uptoBulk,all_sum];omega
 agg:=fun ps=>by simp only[Rows.uptoBulk,all_sum];omega
abbrev okI (n:Int):Prop:=(Lit.int .i64 n).wf=ac
abbrev okU (n:Int):Prop:=(Lit.int .u64 n).wf=ac
abbrev okS (s:ByteArray):Prop:=s.size<=140737488351232
mutual
def goodE:S116->Prop
 | ⟨a,b,s,l⟩=>okI a/\okU b/\okS s/\l.length*56<=140737488351232/\jM l
def jM:List S116->Prop
 | []=>True
 |x::r=>goodE x/\jM r
end
theorem goodEs_iff (l:List S116):jM l ↔ ∀x∈l,goodE x:=by
 induction l with
 |nil=>simp[jM]
 |cons x r ih=>simp[jM,ih]
mutual
def kI:S116->Nat
 | ⟨a,b,s,l⟩=>1+lZ l
def lZ:List S116->Nat
 | []=>0
 |x::r=>kI x+lZ r
end
theorem bulkEs_sum (l:List S116):lZ l=(l.map kI).sum:=by
 induction l with
 |nil=>simp[lZ]
 |cons x r ih=>simp[lZ,ih]
mutual
def kF:S119->Prop
 | ⟨a,s,e,f,lo,hi,th,el⟩=>okI a/\okS s/\goodE e/\goodE f/\okU lo/\okU hi/\th.length*200<=140737488351232/\el.length*200<=140737488351232/\gJ th/\gJ el
def gJ:List S119->Prop
 | []=>True
 |x::r=>kF x/\gJ r
end
theorem dC (l:List S119):gJ l ↔ ∀x∈l,kF x:=by
 induction l with
 |nil=>simp[gJ]
 |cons x r ih=>simp[gJ,ih]
mutual
def iT:S119->Nat
 | ⟨a,s,e,f,lo,hi,th,el⟩=>1+kI e+kI f+bH th+bH el
def bH:List S119->Nat
 | []=>0
 |x::r=>iT x+bH r
end
theorem bulkTs_sum (l:List S119):bH l=(l.map iT).sum:=by
 induction l with
 |nil=>simp[bH]
 |cons x r ih=>simp[bH,ih]
def goodD (x:S70):Prop:=okI x.f0/\okS x.f1/\okI x.f2/\x.f3.length*8<=140737488351232/\∀v∈x.f3,okU v
def bulkD (x:S70):Nat:=1+x.f3.length
theorem sum_ones {α:Type}(l:List α):(l.map fun _=>1).sum=l.length:=by induction l <;> simp_all[Nat.add_comm]
section
variable {H:Type}{enc:TypeId × Value->H}{w:World}
theorem opensE:∀n,fI enc au w Rows.uptoBulk n 116 cH goodE kI:=by
 intro n
 induction n using Nat.strongRecOn with
 |_ n ih=>
  have h:fI enc au w Rows.uptoBulk n 116 (Kd.pair (Kd.int .i64) (Kd.pair (Kd.int .u64) (Kd.pair Kd.string (Kd.slice 116 cH)))) _ _:=fB bulk (fs:=[(3,0),(74,1),(9,2),(114,3)]) Tryz.underlying116 rfl fun m hm=>
   bG (dL bulk gb) (by kernel_rfl) (bG (dL bulk Tryz.underlying74) (by kernel_rfl) (bG (fC bulk Tryz.underlying9) (by kernel_rfl)
    (gD (eB bulk (bytes:=56) Tryz.underlying114 (by kernel_rfl) (by kernel_rfl) (by decide) fun m' hm'=>ih m' (by omega)) (Nat.le_of_eq (by kernel_rfl)))))
  refine opens_kd (e8 (jJ (f:=fun x:S116=>(x.f0,x.f1,x.f2,x.f3)) (fun p=>⟨p.1,p.2.1,p.2.2.1,p.2.2.2⟩) (fun _=>rfl) h) ?_ ?_) ?_
  ·rintro⟨a,b,s,l⟩ ⟨h1,h2,h3,h4,h5⟩;exact⟨h1,h2,h3,h4,(goodEs_iff l).2 h5⟩
  ·rintro⟨a,b,s,l⟩;simp only[kI,bulkEs_sum];omega
  ·rintro x cs ⟨_,_,rfl,rfl,⟨_,_,rfl,rfl,⟨_,_,rfl,rfl,⟨A3,c3,rfl,l3,g3⟩⟩⟩⟩;exact jR w x l3 g3
theorem opensT:∀n,fI enc au w Rows.uptoBulk n 119 cU kF iT:=by
 intro n
 induction n using Nat.strongRecOn with
 |_ n ih=>
  have h:fI enc au w Rows.uptoBulk n 119 (Kd.pair (Kd.int .i64) (Kd.pair Kd.string (Kd.pair cH (Kd.pair cH (Kd.pair (Kd.int .u64) (Kd.pair (Kd.int .u64) (Kd.pair (Kd.slice 119 cU) (Kd.slice 119 cU)))))))) _ _:=fB bulk (fs:=[(3,0),(9,1),(116,2),(116,6),(74,10),(74,11),(23,12),(23,13)]) Tryz.underlying119 rfl fun m hm=>
   bG (dL bulk gb) (by kernel_rfl) (bG (fC bulk Tryz.underlying9) (by kernel_rfl) (bG (opensE m) (by kernel_rfl) (bG (opensE m) (by kernel_rfl)
    (bG (dL bulk Tryz.underlying74) (by kernel_rfl) (bG (dL bulk Tryz.underlying74) (by kernel_rfl)
    (bG (eB bulk (bytes:=200) Tryz.underlying23 (by kernel_rfl) (by kernel_rfl) (by decide) fun m' hm'=>ih m' (by omega)) (by kernel_rfl)
    (gD (eB bulk (bytes:=200) Tryz.underlying23 (by kernel_rfl) (by kernel_rfl) (by decide) fun m' hm'=>ih m' (by omega)) (Nat.le_of_eq (by kernel_rfl)))))))))
  refine opens_kd (e8 (jJ (f:=fun x:S119=>(x.f0,x.f1,x.f2,x.f3,x.f4,x.f5,x.f6,x.f7)) (fun p=>⟨p.1,p.2.1,p.2.2.1,p.2.2.2.1,p.2.2.2.2.1,p.2.2.2.2.2.1,p.2.2.2.2.2.2.1,p.2.2.2.2.2.2.2⟩) (fun _=>rfl) h) ?_ ?_) ?_
  ·rintro⟨a,s,e,f,lo,hi,th,el⟩ ⟨h1,h2,h3,h4,h5,h6,h7,h8⟩;exact⟨h1,h2,h3,h4,h5,h6,h7.1,h8.1,(dC th).2 h7.2,(dC el).2 h8.2⟩
  ·rintro⟨a,s,e,f,lo,hi,th,el⟩;simp only[iT,bulkTs_sum];omega
  ·rintro x cs ⟨_,_,rfl,rfl,⟨_,_,rfl,rfl,⟨_,_,rfl,s2,⟨_,_,rfl,s6,⟨_,_,rfl,rfl,⟨_,_,rfl,rfl,⟨_,_,rfl,⟨A12,c12,rfl,l12,g12⟩,⟨A13,c13,rfl,l13,g13⟩⟩⟩⟩⟩⟩⟩⟩;obtain⟨A5,c5,rfl,l5,g5⟩:=fN s2;obtain⟨A9,c9,rfl,l9,g9⟩:=fN s6;exact fH w x l5 g5 l9 g9 l12 g12 l13 g13
theorem opensD (n:Nat):fI enc au w Rows.uptoBulk n 70 k70 goodD bulkD:=by
 have h:fI enc au w Rows.uptoBulk n 70 (Kd.pair (Kd.int .i64) (Kd.pair Kd.string (Kd.pair (Kd.int .i64) (Kd.slice 74 (Kd.int .u64))))) _ _:=fB bulk (fs:=[(3,0),(9,1),(3,2),(36,3)]) Tryz.underlying70 rfl fun m hm=>
  bG (dL bulk gb) (by kernel_rfl) (bG (fC bulk Tryz.underlying9) (by kernel_rfl) (bG (dL bulk gb) (by kernel_rfl)
   (gD (eB bulk (bytes:=8) Tryz.underlying36 (by kernel_rfl) (by kernel_rfl) (by decide) fun m' hm'=>dL bulk Tryz.underlying74) (Nat.le_of_eq (by kernel_rfl)))))
 refine e8 (jJ (f:=fun x:S70=>(x.f0,x.f1,x.f2,x.f3)) (fun p=>⟨p.1,p.2.1,p.2.2.1,p.2.2.2⟩) (fun _=>rfl) h) ?_ ?_
 ·rintro⟨a,s,z,l⟩ ⟨h1,h2,h3,h4,h5⟩;exact⟨h1,h2,h3,h4,h5⟩
 ·rintro⟨a,s,z,l⟩;simp only[bulkD,sum_ones];omega
structure Prog where
 nm:ByteArray
 wd:Int
 ln:Int
 ds:List S70
 bd:List S119
def kP:Kd Prog:=Kd.iso (Kd.pair Kd.string (Kd.pair (Kd.int .i64) (Kd.pair (Kd.int .i64) (Kd.pair (Kd.slice 70 k70) (Kd.slice 119 cU))))) (fun x:Prog=>(x.nm,x.wd,x.ln,x.ds,x.bd))
structure GoodP (x:Prog):Prop where
 nm:okS x.nm
 wd:okI x.wd
 ln:okI x.ln
 dl:x.ds.length*56<=140737488351232
 ds:∀d∈x.ds,goodD d
 bl:x.bd.length*200<=140737488351232
 bd:∀t∈x.bd,kF t
def bulkP (x:Prog):Nat:=1+(x.ds.map bulkD).sum+bH x.bd
theorem opensP (n:Nat):fI enc au w Rows.uptoBulk n 25 kP GoodP bulkP:=by
 have h:fI enc au w Rows.uptoBulk n 25 (Kd.pair Kd.string (Kd.pair (Kd.int .i64) (Kd.pair (Kd.int .i64) (Kd.pair (Kd.slice 70 k70) (Kd.slice 119 cU))))) _ _:=fB bulk (fs:=[(9,0),(3,1),(3,2),(22,3),(23,4)]) Tryz.underlying25 rfl fun m hm=>
  bG (fC bulk Tryz.underlying9) (by kernel_rfl) (bG (dL bulk gb) (by kernel_rfl) (bG (dL bulk gb) (by kernel_rfl)
   (bG (eB bulk (bytes:=56) Tryz.underlying22 (by kernel_rfl) (by kernel_rfl) (by decide) fun m' hm'=>opensD m') (by kernel_rfl)
   (gD (eB bulk (bytes:=200) Tryz.underlying23 (by kernel_rfl) (by kernel_rfl) (by decide) fun m' hm'=>opensT m') (Nat.le_of_eq (by kernel_rfl))))))
 refine e8 (jJ (f:=fun x:Prog=>(x.nm,x.wd,x.ln,x.ds,x.bd)) (fun p=>⟨p.1,p.2.1,p.2.2.1,p.2.2.2.1,p.2.2.2.2⟩) (fun _=>rfl) h) ?_ ?_
 ·rintro⟨a,s,z,l,b⟩ ⟨h1,h2,h3,h4,h5⟩;exact⟨h1,h2,h3,h4.1,h4.2,h5.1,h5.2⟩
 ·rintro⟨a,s,z,l,b⟩;simp only[bulkP,bulkTs_sum];omega
abbrev opensP_K (w:World):Prog->List Value->Prop:=kP.K w
abbrev lT (x:Prog):Prop:=GoodP x
abbrev kT (x:Prog):Nat:=bulkP x
end
theorem prog_of_K {w:World}{x:Prog}{v:Value}(hs:∃vs,v=.agg vs)(h:kP.K w x v.cells.toList):∃A3 c3 A4 c4,v=.agg #[.string x.nm,.int .i64 x.wd,.int .i64 x.ln,.slice A3 x.ds.length c3,.slice A4 x.bd.length c4]/\x.ds.length<=c3/\k70.C w A3 x.ds.length x.ds/\x.bd.length<=c4/\cU.C w A4 x.bd.length x.bd:=by
 obtain⟨vs,rfl⟩:=hs;obtain⟨_,_,e,rfl,⟨_,_,rfl,rfl,⟨_,_,rfl,rfl,⟨_,_,rfl,⟨A3,c3,rfl,l3,g3⟩,⟨A4,c4,rfl,l4,g4⟩⟩⟩⟩⟩:=h;obtain⟨vs⟩:=vs;simp[Value.cells]at e;subst e;exact⟨A3,c3,A4,c4,rfl,l3,g3,l4,g4⟩
end Go.Proofs.YtfigjpehecibeaaGreat.Ot
namespace Go.Proofs.YtfigjpehecibeaaGreat.L
open Go.RowKit Go.Proofs.YtfigjpehecibeaaGreatW.PrintWords Go.Proofs.YtfigjpehecibeaaGreatW.PrintLast Go.Proofs.YtfigjpehecibeaaGreatW.PrintMore Go.Proofs.YtfigjpehecibeaaGreat.Gr
section
attribute [local go_sem] G.cell
mutual
def sizeT:S119->Nat
 | ⟨k,_,at',e,lo,hi,th,el⟩=>1+(if k=1 then aO e else if k=2 then aO at'+aO e else if k=3 then aO e+dQ th+dQ el else if k=4 then(hi - lo).toNat*(1+dQ th)else 0)
def dQ:List S119->Nat
 | []=>0
 |x::r=>sizeT x+dQ r
end
theorem sizeB_add (l:List S119)(x:S119):dQ (l++[x])=dQ l+sizeT x:=by
 induction l with
 |nil=>simp[dQ]
 |cons y r ih=>rw[fc,dQ,ih,dQ];omega
theorem sizeT_eq (x:S119):sizeT x=1+(if x.f0=1 then aO x.f3 else if x.f0=2 then aO x.f2+aO x.f3 else if x.f0=3 then aO x.f3+dQ x.f6+dQ x.f7 else if x.f0=4 then(x.f5 - x.f4).toNat*(1+dQ x.f6)else 0):=by
 obtain⟨a,b,c,d,e,f,g,h⟩:=x;rw[sizeT]
theorem eT {l:List S119}{k:Nat}(hlt:k<l.length):l.take (k+1)=l.take k++[aI l (k:Int)]:=by
 unfold aI;rw[ax,aw,av hlt,List.take_add_one,av hlt];rfl
theorem jH {l:List S119}{k:Nat}(hlt:k<l.length):aI l (k:Int)∈l:=by
 unfold aI;rw[ax,aw,av hlt];exact dz _
mutual
theorem aK:∀x:S116,aO x<=Ot.kI x
 | ⟨a,b,s,l⟩=>by rw[aO,Ot.kI];have:=j8 l;omega
theorem j8:∀l:List S116,bD l<=Ot.lZ l
 | []=>by rw[bD];omega
 |x::r=>by rw[bD,Ot.lZ];have:=aK x;have:=j8 r;omega
end
mutual
theorem iQ:∀x:S116,d5 x<=aO x
 | ⟨a,b,s,l⟩=>by rw[aO,d5];have:=kB l;omega
theorem kB:∀l:List S116,eZ l<=bD l
 | []=>by rw[bD,eZ];omega
 |x::r=>by rw[bD,eZ];have:=iQ x;have:=kB r;omega
end
theorem G.deep {w:World}{g:G w}{o:Obj}(g':G (g.W.alloc o)):Below w.heap.size w g'.W:=(G.ball g o).trans (g'.below.mono (G.ball g o).size)
theorem aL {P:Program}{id:Nat}{Q:Exit->Act->World->Prop}{a:Act}{w:World}{g:G w}{l:List Oper}(hm:P.follows .mixedOrders=ac)(hB:Region.lexB .any l.toArray=ac)
 (h:wpQuiet P l.toArray (fun w'=>∃g:G w,w'=g.W) (fun a'=>∀w',(∃g:G w,w'=g.W)->Q .normal a' w') l a):(Code.region id l.toArray ac).wp P Q a g.W:=
 wp_region_quiet (C:=fun w'=>∃g:G w,w'=g.W) hm hB ⟨⟨_,g.below.drew⟩,rfl⟩ (by simpa using h)
def mkG {w w':World}(h:Below w.heap.size w w'):G w:=⟨w',h⟩
theorem wrap_id {z:Int}(h0:0<=z)(h1:z<9223372036854775808):wrap64 z=z:=by unfold wrap64;omega
def SizeC (f:FuncId)(cap:Nat)(l:List S119):Prop:=∀(A:Option Addr) (c:Nat) (w:World),cU.C w A l.length l->l.length<=c->
 Calls au f #[.slice A l.length c] w fun e w'=>e=.returned (.int .i64 ((min (dQ l) cap:Nat):Int))/\Below w.heap.size w w'
end
end Go.Proofs.YtfigjpehecibeaaGreat.L
namespace Go.Proofs.YtfigjpehecibeaaGreat.L
def eqS (a b:ByteArray):Bool:=decide (a.toList=b.toList)
def kM (l:List ByteArray)(s:ByteArray):Bool:=l.any (eqS · s)
def aU (n:Nat)(f:Nat->Bool):Option Nat:=(cr n).find? f
theorem cW {n:Nat}{f:Nat->Bool}(h:∀j,j<n->f j=O):aU n f=aj:=by
 unfold aU;rw[List.find?_eq_none];intro x hx;rw[h x (gq.1 hx)];decide
theorem cZ {n i:Nat}{f:Nat->Bool}(hi:i<n)(hf:f i=ac)(h:∀j,j<i->f j=O):aU n f=ae i:=by
 unfold aU;rw[List.find?_range_eq_some];exact⟨hf,gq.2 hi,fun j hj=>by simp[h j hj]⟩
theorem fA (n:Nat)(f:Nat->Bool):(aU n f=aj/\∀j,j<n->f j=O)\/∃i,i<n/\aU n f=ae i/\f i=ac/\∀j,j<i->f j=O:=by
 cases h:aU n f with
 |none=>
  refine .inl ⟨rfl,fun j hj=> ?_⟩;have:=List.find?_eq_none.1 h j (gq.2 hj)
  simpa using this
 |some i=>
  have h2:=List.find?_range_eq_some.1 h;exact .inr ⟨i,gq.1 h2.2.1,rfl,h2.1,fun j hj=>by simpa using h2.2.2 j hj⟩
theorem firstN_congr {n:Nat}{f g:Nat->Bool}(h:∀j,j<n->f j=g j):aU n f=aU n g:=by
 rcases fA n f with ⟨h1,h2⟩ | ⟨i,h0,h1,h2,h3⟩
 ·rw[h1,cW fun j hj=>(h j hj) ▸ h2 j hj]
 ·rw[h1,cZ h0 ((h i h0) ▸ h2) fun j hj=>(h j (by omega)) ▸ h3 j hj]
inductive Th where
 |decl (i:Nat)
 |stmt (s:S119) (deep:Nat) (loops:List ByteArray)
 |expr (e:S116) (loops:List ByteArray)
mutual
def bJ:S116->List ByteArray->List Th
 | ⟨a,b,c,l⟩,lo=>.expr ⟨a,b,c,l⟩ lo::bY l lo
def bY:List S116->List ByteArray->List Th
 | [],_=>[]
 |x::r,lo=>bJ x lo++bY r lo
end
def inLoop (k:Int)(nm:ByteArray)(lo:List ByteArray):List ByteArray:=if k=4 then lo++[nm]else lo
mutual
def jN:S119->Nat->List ByteArray->List Th
 | ⟨k,nm,at',e,l,h,th,el⟩,d,lo=>.stmt ⟨k,nm,at',e,l,h,th,el⟩ d lo::((if k=2 then bJ at' lo else [])++(if k=1\/k=2\/k=3 then bJ e lo else [])++(aD th (d+1) (inLoop k nm lo)++aD el (d+1) (inLoop k nm lo)))
def aD:List S119->Nat->List ByteArray->List Th
 | [],_,_=>[]
 |x::r,d,lo=>jN x d lo++aD r d lo
end
theorem eW (x:S116)(lo:List ByteArray):bJ x lo=.expr x lo::bY x.f3 lo:=by
 obtain⟨a,b,c,l⟩:=x;rw[bJ]
theorem i9 (l:List S116)(x:S116)(lo:List ByteArray):bY (l++[x]) lo=bY l lo++bJ x lo:=by
 induction l with
 |nil=>simp[bY]
 |cons y r ih=>rw[fc,bY,ih,bY,bh]
theorem cK (x:S119)(d:Nat)(lo:List ByteArray):jN x d lo=.stmt x d lo::((if x.f0=2 then bJ x.f2 lo else [])++(if x.f0=1\/x.f0=2\/x.f0=3 then bJ x.f3 lo else [])++(aD x.f6 (d+1) (inLoop x.f0 x.f1 lo)++aD x.f7 (d+1) (inLoop x.f0 x.f1 lo))):=by
 obtain⟨k,nm,at',e,l,h,th,el⟩:=x;rw[jN]
theorem bW (l:List S119)(x:S119)(d:Nat)(lo:List ByteArray):aD (l++[x]) d lo=aD l d lo++jN x d lo:=by
 induction l with
 |nil=>simp[aD]
 |cons y r ih=>rw[fc,aD,ih,aD,bh]
def things (ds:List S70)(bd:List S119):List Th:=(cr ds.length).map .decl++aD bd 1 []
mutual
theorem bB:∀(x:S116) (lo:List ByteArray),(bJ x lo).length=aO x
 | ⟨a,b,s,l⟩,lo=>by rw[bJ,aO,List.length_cons,gM l lo];omega
theorem gM:∀(l:List S116) (lo:List ByteArray),(bY l lo).length=bD l
 | [],_=>by rw[bY,bD];rfl
 |x::r,lo=>by rw[bY,bD,ar,bB x lo,gM r lo]
end
mutual
theorem stTh_len:∀(x:S119) (d:Nat) (lo:List ByteArray),(jN x d lo).length<=Ot.iT x
 | ⟨k,nm,at',e,l,h,th,el⟩,d,lo=>by
   rw[jN,Ot.iT,List.length_cons,ar,ar,ar]
   have h1:(if k=2 then bJ at' lo else []).length<=Ot.kI at':=by
    split
    ·rw[bB];exact aK _
    ·exact br _
   have h2:(if k=1\/k=2\/k=3 then bJ e lo else []).length<=Ot.kI e:=by
    split
    ·rw[bB];exact aK _
    ·exact br _
   have h3:=bV th (d+1) (inLoop k nm lo);have h4:=bV el (d+1) (inLoop k nm lo);omega
theorem bV:∀(l:List S119) (d:Nat) (lo:List ByteArray),(aD l d lo).length<=Ot.bH l
 | [],_,_=>by rw[aD];exact br _
 |x::r,d,lo=>by rw[aD,Ot.bH,ar];have:=stTh_len x d lo;have:=bV r d lo;omega
end
def dB (n:Int):Bool:=n==1||n==2||n==4||n==8||n==16||n==32||n==64||n==128||n==256
def cN (w:Int):Bool:=w==4||w==8||w==16||w==32||w==64
def iJ (w x:Int):Bool:=decide (64<=w)||decide (x<2 ^ w.toNat)
def dH (ds:List S70)(nm:ByteArray):Option Nat:=aU ds.length fun i=>eqS (aJ ds i).f1 nm
def gN (d:S70):Int:=if d.f2=0 then 1 else d.f2
def isIn (d:S70):Bool:=d.f0==1||d.f0==2
def cV (ds:List S70):Int:=((ds.filter isIn).map gN).sum
def d8 (ds:List S70)(i:Nat):Bool:=(aU i fun j=>eqS (aJ ds j).f1 (aJ ds i).f1).isSome
def cL (ds:List S70)(i:Nat):Bool:=(aJ ds i).f2 != 0&& !dB (aJ ds i).f2
def bT (ds:List S70)(i:Nat):Bool:=(aJ ds i).f0==3&&((aJ ds i).f3.length:Int) != (aJ ds i).f2
def dF (wd:Int)(ds:List S70)(i:Nat):Bool:=(aJ ds i).f3.any fun v=> !iJ wd v
def jX:Th->Option ByteArray
 | .decl _=>aj
 | .stmt s _ _=>if s.f0=1\/s.f0=2\/s.f0=5 then ae s.f1 else aj
 | .expr e _=>if e.f0=2\/e.f0=3 then ae e.f2 else aj
def gT:Th->List ByteArray
 | .decl _=>[]
 | .stmt _ _ l=>l
 | .expr _ l=>l
def kindD (d:S70):Th->Bool
 | .decl _=>d.f2==0
 | .stmt s _ _=>if s.f0=2 then d.f2 != 0&&d.f0 != 3 else d.f2==0
 | .expr e _=>if e.f0=2 then d.f2==0 else d.f2 != 0
def isName:Th->Bool
 | .expr e _=>e.f0==2
 |_=>O
def kindB (ds:List S70)(t:Th)(nm:ByteArray):Bool:=if kM (gT t) nm=ac then isName t else kindD (aJ ds ((dH ds nm).getD 0)) t
def bad10:Th->Bool
 | .decl _=>O
 | .stmt _ d _=>decide (64<d)
 | .expr e _=>decide (64<d5 e)
def bad11 (ds:List S70)(t:Th):Bool:=match jX t with
 |none=>O
 |some nm=> !kM (gT t) nm&&(dH ds nm).isNone
def bad12 (ds:List S70)(t:Th):Bool:=match jX t with
 |none=>O
 |some nm=> !kindB ds t nm
def bad13 (wd:Int):Th->Bool
 | .expr e _=>e.f0==1&& !iJ wd e.f1
 |_=>O
def bad14 (wd:Int):Th->Bool
 | .stmt s _ _=>s.f0==4&&(decide (s.f5<s.f4)||(decide (0<s.f5)&& !iJ wd (s.f5 - 1)))
 |_=>O
def bad15 (ds:List S70):Th->Bool
 | .stmt s _ l=>s.f0==4&&((dH ds s.f1).isSome||kM l s.f1)
 |_=>O
def badC (wd:Int)(ds:List S70)(c:Nat):Th->Bool:=
 if c=10 then bad10 else if c=11 then bad11 ds else if c=12 then bad12 ds else if c=13 then bad13 wd else if c=14 then bad14 wd else bad15 ds
def errC (c:Nat):Int:=if c=10 then 152 else if c=11 then 161 else if c=12 then 162 else if c=13 then 165 else if c=14 then 166 else 167
def eQ (l:List Th)(i:Nat):Th:=l.getD i (.decl 0)
def aX (wd:Int)(ds:List S70)(l:List Th)(c:Nat):Option Nat:=aU l.length fun i=>badC wd ds c (eQ l i)
structure Ans where
 c:Int
 at':Int
 e:Int
def dV (wd:Int)(ds:List S70)(bd:List S119)(l:List Th):Nat->Ans
 |0=>if 65536<dQ bd then⟨16,-1,168⟩else⟨0,0,0⟩
 |n+1=>match aX wd ds l (15 - n)with
  |some i=>⟨((15 - n:Nat):Int),i,errC (15 - n)⟩
  |none=>dV wd ds bd l n
def d7 (wd:Int)(ds:List S70)(bd:List S119):Ans:=match aU ds.length (d8 ds)with
 |some i=>⟨5,i,160⟩
 |none=>match aU ds.length (cL ds)with
  |some i=>⟨6,i,163⟩
  |none=>match aU ds.length (bT ds)with
   |some i=>⟨7,i,164⟩
   |none=>match aU ds.length (dF wd ds)with
    |some i=>⟨8,i,165⟩
    |none=>if 4096<cV ds then⟨9,-1,169⟩else dV wd ds bd (things ds bd) 6
def cJ (nm:ByteArray)(wd ln:Int)(ds:List S70)(bd:List S119):Ans:=
 if cI nm wd ln ds bd=O then⟨1,-1,1⟩
 else if cN wd=O then⟨2,-1,5⟩
 else if dB ln=O then⟨3,-1,163⟩
 else if 256<ds.length then⟨4,-1,4⟩
 else d7 wd ds bd
end Go.Proofs.YtfigjpehecibeaaGreat.L
namespace Go.Proofs.YtfigjpehecibeaaGreat.L
open Go.RowKit Go.Proofs.YtfigjpehecibeaaGreatW.PrintWords Go.Proofs.YtfigjpehecibeaaGreatW.PrintLast Go.Proofs.YtfigjpehecibeaaGreatW.PrintMore Go.Proofs.YtfigjpehecibeaaGreat.Gr
def lent {α:Type}(W0:World)(d:Kd α):Kd α where
 sz:=d.sz
 E:=[]
 K:=fun _ x cs=>d.K W0 x cs
 M:=fun _ _ _ x cs=>d.K W0 x cs
 K_len:=d.K_len
 K_one:=d.K_one
 K_below:=fun _ h=>h
 K_of_M:=fun h=>h
 M_mono:=fun _ h=>h
 M_bound:=fun h=>h
 M_move:=fun _ h=>h
 M_lower:=fun _ h=>h
structure TV where
 is:Int
 d:Int
 s:S119
 e:S116
 deep:Int
 loops:List ByteArray
def kTh (W0:World):Kd TV:=Kd.iso (Kd.pair (Kd.int .i64) (Kd.pair (Kd.int .i64) (Kd.pair (lent W0 cU) (Kd.pair (lent W0 cH) (Kd.pair (Kd.int .i64) (Kd.slice 9 Kd.string)))))) (fun x:TV=>(x.is,x.d,x.s,x.e,x.deep,x.loops))
def d9:Th->TV
 | .decl i=>⟨0,i,z119,z116,0,[]⟩
 | .stmt s d lo=>⟨1,0,s,z116,d,lo⟩
 | .expr e lo=>⟨2,0,z119,e,d5 e,lo⟩
theorem kTh_open {W0 w:World}{x:TV}{cs:List Value}(h:(kTh W0).K w x cs):∃A5 c5 A9 c9 A12 c12 A13 c13 A19 c19 A21 c21,
 cs=[.int .i64 x.is,.int .i64 x.d,.int .i64 x.s.f0,.string x.s.f1,.int .i64 x.s.f2.f0,.int .u64 x.s.f2.f1,.string x.s.f2.f2,.slice A5 x.s.f2.f3.length c5,.int .i64 x.s.f3.f0,.int .u64 x.s.f3.f1,.string x.s.f3.f2,.slice A9 x.s.f3.f3.length c9,.int .u64 x.s.f4,.int .u64 x.s.f5,.slice A12 x.s.f6.length c12,.slice A13 x.s.f7.length c13,
  .int .i64 x.e.f0,.int .u64 x.e.f1,.string x.e.f2,.slice A19 x.e.f3.length c19,.int .i64 x.deep,.slice A21 x.loops.length c21]/\
 x.s.f2.f3.length<=c5/\cH.C W0 A5 x.s.f2.f3.length x.s.f2.f3/\x.s.f3.f3.length<=c9/\cH.C W0 A9 x.s.f3.f3.length x.s.f3.f3/\x.s.f6.length<=c12/\cU.C W0 A12 x.s.f6.length x.s.f6/\x.s.f7.length<=c13/\cU.C W0 A13 x.s.f7.length x.s.f7/\
 x.e.f3.length<=c19/\cH.C W0 A19 x.e.f3.length x.e.f3/\x.loops.length<=c21/\Kd.string.C w A21 x.loops.length x.loops:=by
 obtain⟨_,_,rfl,rfl,⟨_,_,rfl,rfl,⟨_,_,rfl,s2,⟨_,_,rfl,s3,⟨_,_,rfl,rfl,⟨A21,c21,rfl,l21,g21⟩⟩⟩⟩⟩⟩:=h;obtain⟨A5,c5,A9,c9,A12,c12,A13,c13,hs,l5,g5,l9,g9,l12,g12,l13,g13⟩:=k119_open (show cU.K W0 x.s _ from s2);obtain⟨A19,c19,he,l19,g19⟩:=fN (show cH.K W0 x.e _ from s3);subst hs he;exact⟨A5,c5,A9,c9,A12,c12,A13,c13,A19,c19,A21,c21,rfl,l5,g5,l9,g9,l12,g12,l13,g13,l19,g19,l21,g21⟩
theorem fY {α:Type}(d:Kd α)(W:World):d.C W aj 0 []:=by
 obtain⟨A,c,e,l,g⟩:=Kd.fF (Kd.jQ d 75 W 0 (fun _=>True));cases e;exact g
theorem fL (W:World):cH.K W z116 [.int .i64 0,.int .u64 0,.string ⟨#[]⟩,.slice aj 0 0]:=jR W z116 (A3:=aj) (c3:=0) (ai _) (fY cH W)
theorem k119_zero (W:World):cU.K W z119 [.int .i64 0,.string ⟨#[]⟩,.int .i64 0,.int .u64 0,.string ⟨#[]⟩,.slice aj 0 0,.int .i64 0,.int .u64 0,.string ⟨#[]⟩,.slice aj 0 0,.int .u64 0,.int .u64 0,.slice aj 0 0,.slice aj 0 0]:=
 fH W z119 (ai _) (fY cH W) (ai _) (fY cH W) (ai _) (fY cU W) (ai _) (fY cU W)
theorem lM {W0 w:World}{base:Nat}{ok:Nat->Prop}{x:TV}{cs ce:List Value}{lv:Value}(hs:cU.K W0 x.s cs)(he:cH.K W0 x.e ce)(hl:Kd.string.R 9 w base ok lv x.loops):
 (kTh W0).M w base ok x ([.int .i64 x.is,.int .i64 x.d]++cs++ce++[.int .i64 x.deep,lv]):=
 ⟨[.int .i64 x.is],[.int .i64 x.d]++cs++ce++[.int .i64 x.deep,lv],by simp,rfl,[.int .i64 x.d],cs++ce++[.int .i64 x.deep,lv],by simp,rfl,cs,ce++[.int .i64 x.deep,lv],by simp,hs,ce,[.int .i64 x.deep,lv],by simp,he,[.int .i64 x.deep],[lv],rfl,rfl,lv,rfl,hl⟩
structure Gro (W0 w w1:World)(v v1:Value):Prop where
 below:Below W0.heap.size W0 w1
 grown:w.grownBy w1 v.ownBlock
 at':v1.ownBlock=v.ownBlock\/∃b,v1.ownBlock=ae b/\w.heap.size<=b
theorem Gro.trans {W0 w w1 w2:World}{v v1 v2:Value}(h:Gro W0 w w1 v v1)(k:Gro W0 w1 w2 v1 v2):Gro W0 w w2 v v2:=by
 refine⟨k.below,⟨k.grown.os.trans h.grown.os,k.grown.tape.trans h.grown.tape,k.grown.output.trans h.grown.output,bg h.grown.size k.grown.size,fun i hi hn=> ?_⟩,?_⟩
 ·refine(k.grown.block i (ee hi h.grown.size) ?_).trans (h.grown.block i hi hn)
  rcases h.at' with ha | ⟨b,hb,hle⟩
  ·rw[ha];exact hn
  ·rw[hb];intro he;injection he with he;omega
 ·rcases k.at' with ha | ⟨b,hb,hle⟩
  ·rw[ha];exact h.at'
  ·exact .inr ⟨b,hb,bg h.grown.size hle⟩
theorem Gro.of_below {W0 w w1:World}(v:Value)(hb:Below W0.heap.size W0 w)(h:Below w.heap.size w w1):Gro W0 w w1 v v:=
 ⟨hb.trans (h.mono hb.size),⟨h.os,h.tape,h.output,h.size,fun k hk _=>h.block k hk⟩,.inl rfl⟩
def Li (tT:Nat)(W0 w:World)(v:Value)(xs:List Th):Prop:=(kTh W0).R tT w W0.heap.size (fun _=>True) v (xs.map d9)
def Lo (W0 w:World)(v lv:Value)(lo:List ByteArray):Prop:=Kd.string.R 9 w W0.heap.size (fun k=>ae k≠v.ownBlock) lv lo
theorem Li.below {tT:Nat}{W0 w w1:World}{v:Value}{xs:List Th}(h:Li tT W0 w v xs)(hb:Below w.heap.size w w1):Li tT W0 w1 v xs:=Kd.dA h hb
theorem Lo.step {W0 w w1:World}{v v1 lv:Value}{lo:List ByteArray}(h:Lo W0 w v lv lo)(hg:Gro W0 w w1 v v1):Lo W0 w1 v1 lv lo:=by
 have h1:=Kd.iV h;have h2:=Kd.j5 h1 hg.grown (fun k hk=>hk.1);refine Kd.jA h2 fun k hk=> ?_
 rcases hg.at' with ha | ⟨b,hb,hle⟩
 ·rw[ha];exact hk.1
 ·rw[hb];intro he;injection he with he;have:=hk.2.2.1;omega
theorem Lo.nil (W0 w:World)(v:Value):Lo W0 w v (.slice aj 0 0) []:=Kd.jQ _ _ _ _ _
theorem in_eq:∀(d k i:Nat) (l:List ByteArray) (s:ByteArray),i+d=l.length->d<k->l.length<=9223372036854775807->(∀j,j<i->eqS (kJ ba l (j:Int)) s=O)->cadenceref16_in.l0 k l s (i:Int)=ae (kM l s):=by
 intro d
 induction d with
 |zero=>
  intro k i l s hi hk hl hn;obtain⟨k,rfl⟩:∃k',k=k'+1:=⟨k - 1,by omega⟩;rw[cadenceref16_in.l0,if_neg (by omega)]
  congr 1
  symm
  unfold kM;rw[List.any_eq_false];intro y hy;obtain⟨j,hj,rfl⟩:=ef hy;have:=hn j (by omega);unfold kJ at this;rw[ax,aw,av hj]at this
  simpa using this
 |succ d ih=>
  intro k i l s hi hk hl hn;obtain⟨k,rfl⟩:∃k',k=k'+1:=⟨k - 1,by omega⟩;rw[cadenceref16_in.l0,if_pos (by omega),if_pos (by omega)]
  by_cases h:(kJ ba l (i:Int)).toList=s.toList
  ·rw[if_pos h]
   congr 1
   symm
   unfold kM;rw[List.any_eq_true]
   have hj:i<l.length:=by omega
   refine⟨l[i],dz _,?_⟩;unfold kJ at h;rw[ax,aw,av hj]at h;exact decide_eq_true h
  ·rw[if_neg h,show wrap64 ((i:Int)+1)=((i+1:Nat):Int) by unfold wrap64;omega];refine ih k (i+1) l s (by omega) (by omega) hl fun j hj=> ?_
   by_cases hji:j=i
   ·subst hji;exact decide_eq_false h
   ·exact hn j (by omega)
section
attribute [local go_sem] G.cell
structure ProgAt (w:World)(ds:List S70)(bd:List S119)(A3:Option Addr)(c3:Nat)(A4:Option Addr)(c4:Nat):Prop where
 hd:k70.C w A3 ds.length ds
 hld:ds.length<=c3
 hb:cU.C w A4 bd.length bd
 hlb:bd.length<=c4
theorem ProgAt.below {w w':World}{ds:List S70}{bd:List S119}{A3:Option Addr}{c3:Nat}{A4:Option Addr}{c4:Nat}(h:ProgAt w ds bd A3 c3 A4 c4)(hb:Below w.heap.size w w'):ProgAt w' ds bd A3 c3 A4 c4:=⟨Kd.aF h.hd hb,h.hld,Kd.aF h.hb hb,h.hlb⟩
theorem aM {w W:World}{a:Addr}{v:Value}(h:Below w.heap.size w W)(q:w.cell? a=ae v):W.cell? a=ae v:=(h.cell (ah w a q)).trans q
theorem in_v {l:List ByteArray}{s:ByteArray}{b:Bool}(h:kM l s=b)(A:Option Addr)(c:Nat)(w:World)(hc:Kd.string.C w A l.length l)(hl:l.length<=c):
 Calls au 131 #[.slice A l.length c,.string s] w fun e w'=>e=.returned (.bool b)/\Below w.heap.size w w':=by
 have hlm:=hc.2.1;exact(cadenceref16_in.calls (l.length+1) A c l s b w hc hl (by unfold cadenceref16_in.f;exact(in_eq l.length (l.length+1) 0 l s (by omega) (by omega) (by omega) (fun j hj=>absurd hj (dn _))).trans (by rw[h]))).mono fun _ _ ⟨he,hd⟩=>⟨he,hd.below⟩
theorem bf {z a:Int}(h:¬z=a):(z==a)=O:=by simpa using h
end
section
attribute [local go_sem] G.cell
theorem bn {z a:Int}(h:¬z=a):(z != a)=ac:=by simpa using h
theorem form_v {nm:ByteArray}{wd ln:Int}{ds:List S70}{bd:List S119}{A3:Option Addr}{c3:Nat}{A4:Option Addr}{c4:Nat}{w:World}(hp:ProgAt w ds bd A3 c3 A4 c4){b:Bool}(h:cI nm wd ln ds bd=b):
 Calls au 78 #[.agg #[.string nm,.int .i64 wd,.int .i64 ln,.slice A3 ds.length c3,.slice A4 bd.length c4]] w fun e w'=>e=.returned (.bool b)/\Below w.heap.size w w':=h ▸ refForm_walk nm wd ln ds bd A3 c3 A4 c4 w hp.hd hp.hld hp.hb hp.hlb
theorem wf_v {nm:ByteArray}{wd ln:Int}{ds:List S70}{bd:List S119}{A3:Option Addr}{c3:Nat}{A4:Option Addr}{c4:Nat}{w:World}(hp:ProgAt w ds bd A3 c3 A4 c4){b:Bool}(h:cI nm wd ln ds bd=b):
 Calls au 75 #[.agg #[.string nm,.int .i64 wd,.int .i64 ln,.slice A3 ds.length c3,.slice A4 bd.length c4]] w fun e w'=>e=.returned (.bool b)/\Below w.heap.size w w':=h ▸ Form_walk nm wd ln ds bd A3 c3 A4 c4 w hp.hd hp.hld hp.hb hp.hlb
theorem jV {nm:ByteArray}{wd ln:Int}{ds:List S70}{bd:List S119}(h:cI nm wd ln ds bd=ac):0<=wd/\0<=ln/\(∀d∈ds,0<=d.f2)/\bdB bd=ac:=by
 unfold cI at h;simp only[dg,decide_eq_true_eq,ew]at h;obtain⟨⟨⟨_,h1⟩,h2⟩,h3,h4⟩:=h;refine⟨h1,h2,fun d hd=> ?_,h4⟩;have:=h3 d hd;unfold dcB at this;simp only[dg,decide_eq_true_eq]at this;exact this.1.2
theorem ret_two {a b c d:Int}(h1:a=c)(h2:b=d):Ending.returned (.tuple #[.int .i64 a,.int .i64 b])=.returned (.tuple #[.int .i64 c,.int .i64 d]):=by rw[h1,h2]
end
section
attribute [local go_sem] G.cell
theorem eX {l:List S70}{k:Nat}(hlt:k<l.length):l.take (k+1)=l.take k++[aJ l (k:Int)]:=by
 unfold aJ;rw[ax,aw,av hlt,List.take_add_one,av hlt];rfl
theorem wordsS_add (l:List S70)(x:S70):cV (l++[x])=cV l+if isIn x=ac then gN x else 0:=by
 unfold cV;rw[List.filter_append,cw,List.sum_append]
 by_cases h:isIn x=ac <;> simp[h]
theorem pow2_le {n:Int}(h:dB n=ac):1<=n/\n<=256:=by
 unfold dB at h;simp only[Bool.or_eq_true,beq_iff_eq]at h;omega
theorem words_le {d:S70}(h:d.f2=0\/dB d.f2=ac):1<=gN d/\gN d<=256:=by
 unfold gN
 split
 ·omega
 ·rcases h with h | h
  ·contradiction
  ·exact pow2_le h
theorem getD_mem {l:List Int}{j:Nat}(h:j<l.length):l.getD j 0∈l:=by rw[aw,av h];exact dz _
theorem size_good {ds:List S70}{k:Nat}(h:cL ds k=O):(aJ ds (k:Int)).f2=0\/dB (aJ ds (k:Int)).f2=ac:=by
 unfold cL at h
 by_cases z:(aJ ds (k:Int)).f2=0
 ·exact .inl z
 ·right;have e:=bn z;rw[e]at h
  simpa using h
end
def goodTh:Th->Prop
 | .decl _=>True
 | .stmt s _ _=>0<=s.f5/\s.f5<18446744073709551616
 | .expr e _=>0<=e.f1
theorem okU_b {n:Int}(h:Ot.okU n):0<=n/\n<18446744073709551616:=by
 unfold Ot.okU at h;simp[Lit.wf,IntKind.min,IntKind.max,IntKind.bits,IntKind.signed]at h;omega
mutual
theorem kS:∀(e:S116) (lo:List ByteArray),Ot.goodE e->∀t∈bJ e lo,goodTh t
 | ⟨a,b,s,l⟩,lo,h,t,ht=>by
   rw[Ot.goodE]at h;rw[bJ]at ht
   rcases cg.1 ht with rfl | ht
   ·exact(okU_b h.2.1).1
   ·exact good_exThs l lo h.2.2.2.2 t ht
theorem good_exThs:∀(l:List S116) (lo:List ByteArray),Ot.jM l->∀t∈bY l lo,goodTh t
 | [],_,_,t,ht=>by rw[bY]at ht;cases ht
 |x::r,lo,h,t,ht=>by
  rw[Ot.jM]at h;rw[bY]at ht
  rcases bo.1 ht with ht | ht
  ·exact kS x lo h.1 t ht
  ·exact good_exThs r lo h.2 t ht
end
mutual
theorem good_stTh:∀(x:S119) (d:Nat) (lo:List ByteArray),Ot.kF x->∀t∈jN x d lo,goodTh t
 | ⟨k,nm,e,f,l,h,th,el⟩,d,lo,hg,t,ht=>by
   rw[Ot.kF]at hg;obtain⟨_,_,h1,h2,_,h3,_,_,h4,h5⟩:=hg;rw[jN]at ht
   rcases cg.1 ht with rfl | ht
   ·exact okU_b h3
   ·rcases bo.1 ht with ht | ht
    ·rcases bo.1 ht with ht | ht
     ·split at ht
      ·exact kS e lo h1 t ht
      ·cases ht
     ·split at ht
      ·exact kS f lo h2 t ht
      ·cases ht
    ·rcases bo.1 ht with ht | ht
     ·exact iF th _ _ h4 t ht
     ·exact iF el _ _ h5 t ht
theorem iF:∀(l:List S119) (d:Nat) (lo:List ByteArray),Ot.gJ l->∀t∈aD l d lo,goodTh t
 | [],_,_,_,t,ht=>by rw[aD]at ht;cases ht
 |x::r,d,lo,h,t,ht=>by
  rw[Ot.gJ]at h;rw[aD]at ht
  rcases bo.1 ht with ht | ht
  ·exact good_stTh x d lo h.1 t ht
  ·exact iF r d lo h.2 t ht
end
theorem good_things {ds:List S70}{bd:List S119}(h:∀t∈bd,Ot.kF t):∀t∈things ds bd,goodTh t:=by
 intro t ht;unfold things at ht
 rcases bo.1 ht with ht | ht
 ·obtain⟨i,_,rfl⟩:=List.mem_map.1 ht;trivial
 ·exact iF bd 1 [] ((Ot.dC bd).2 h) t ht
theorem findB_lt {ds:List S70}{s:ByteArray}{i:Nat}(h:dH ds s=ae i):i<ds.length:=by
 unfold dH at h
 rcases fA ds.length (fun j=>eqS (aJ ds (j:Int)).f1 s)with ⟨h1,_⟩ | ⟨m,h0,h1,_,_⟩
 ·rw[h1]at h;cases h
 ·rw[h1]at h;injection h with h;omega
end Go.Proofs.YtfigjpehecibeaaGreat.L
