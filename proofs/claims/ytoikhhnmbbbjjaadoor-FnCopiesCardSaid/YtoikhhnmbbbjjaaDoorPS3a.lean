/- The program: is a value in a store? -/
import Derived.Test.YtoikhhnmbbbjjaaDoorPr
import Derived.Test.YtoikhhnmbbbjjaaDoorPS3
namespace Go.Proofs.YtoikhhnmbbbjjaaDoor
set_option linter.unusedVariables false
set_option linter.unusedSimpArgs false
set_option maxRecDepth 100000
open Go.RowKit
--%quiet
set_option maxHeartbeats 2000000 in
theorem implIn_4 (n i:Int) (t:ByteArray) (lo hi:Int) (s:TStore):InC 30 s ⟨4,n,i,t,lo,hi⟩:=by
 intro S q w hs hv
 obtain⟨x0,x1,x2,x3,x4,x5,x6,x7,x8,x9,x10,x11,x12⟩:=s
 have HSt:=hide hs
 obtain⟨A0,c0,A1,c1,A2,c2,A3,c3,A6,c6,A7,c7,A8,c8,hq,e0,e1,e2,e3,e4,e5,e6,e7,e8,e9,e10,e11,e12,hlc0,hcm0,hlc1,hcm1,hlc2,hcm2,hlc3,hcm3,hlc6,hcm6,hlc7,hcm7,hlc8,hcm8,g4,g5,g10,g11,g12,-,-,HR2,-,-,-,-⟩:=StoreAt.opn hs
 clear hs
 have hqn:¬q=w.heap.size:=by omega
 have hts:=hv.t
 unfold maxLen at hts
 simp only at hts
 cases hw:wellB ⟨4,n,i,t,lo,hi⟩
 case false =>
  exact rk79
 case true =>
  have HW:=hide hw
  have hn:=well_n hw (by omega)
  have hIO:=hide ((inB_obj (s:=(TStore.mk x0 x1 x2 x3 x4 x5 x6 x7 x8 x9 x10 x11 x12)) hw (by show kindI 4≠0;rw[kindI_4];decide)).trans (objIn_has hn (by simp)))
  clear hw
  cases hh:hasB (TStore.mk x0 x1 x2 x3 x4 x5 x6 x7 x8 x9 x10 x11 x12) n 2
  ·
   have RR:=hide (show inB (TStore.mk x0 x1 x2 x3 x4 x5 x6 x7 x8 x9 x10 x11 x12) ⟨4,n,i,t,lo,hi⟩=false by rw[hIO.out];show hasB _ n (kindI 4)=_;rw[kindI_4];exact hh)
   exact rk2
  ·
   have RR:=hide (show inB (TStore.mk x0 x1 x2 x3 x4 x5 x6 x7 x8 x9 x10 x11 x12) ⟨4,n,i,t,lo,hi⟩=true by rw[hIO.out];show hasB _ n (kindI 4)=_;rw[kindI_4];exact hh)
   exact rk2
set_option maxHeartbeats 2000000 in
theorem implIn_5 (n i:Int) (t:ByteArray) (lo hi:Int) (s:TStore):InC 30 s ⟨5,n,i,t,lo,hi⟩:=by
 intro S q w hs hv
 obtain⟨x0,x1,x2,x3,x4,x5,x6,x7,x8,x9,x10,x11,x12⟩:=s
 have HSt:=hide hs
 obtain⟨A0,c0,A1,c1,A2,c2,A3,c3,A6,c6,A7,c7,A8,c8,hq,e0,e1,e2,e3,e4,e5,e6,e7,e8,e9,e10,e11,e12,hlc0,hcm0,hlc1,hcm1,hlc2,hcm2,hlc3,hcm3,hlc6,hcm6,hlc7,hcm7,hlc8,hcm8,g4,g5,g10,g11,g12,-,-,HR2,-,-,-,-⟩:=StoreAt.opn hs
 clear hs
 have hqn:¬q=w.heap.size:=by omega
 have hts:=hv.t
 unfold maxLen at hts
 simp only at hts
 cases hw:wellB ⟨5,n,i,t,lo,hi⟩
 case false =>
  exact rk79
 case true =>
  have HW:=hide hw
  have hn:=well_n hw (by omega)
  have hIO:=hide ((inB_obj (s:=(TStore.mk x0 x1 x2 x3 x4 x5 x6 x7 x8 x9 x10 x11 x12)) hw (by show kindI 5≠0;rw[kindI_5];decide)).trans (objIn_has hn (by simp)))
  clear hw
  cases hh:hasB (TStore.mk x0 x1 x2 x3 x4 x5 x6 x7 x8 x9 x10 x11 x12) n 3
  ·
   have RR:=hide (show inB (TStore.mk x0 x1 x2 x3 x4 x5 x6 x7 x8 x9 x10 x11 x12) ⟨5,n,i,t,lo,hi⟩=false by rw[hIO.out];show hasB _ n (kindI 5)=_;rw[kindI_5];exact hh)
   exact rk2
  ·
   have RR:=hide (show inB (TStore.mk x0 x1 x2 x3 x4 x5 x6 x7 x8 x9 x10 x11 x12) ⟨5,n,i,t,lo,hi⟩=true by rw[hIO.out];show hasB _ n (kindI 5)=_;rw[kindI_5];exact hh)
   exact rk2
set_option maxHeartbeats 2000000 in
theorem implIn_6 (n i:Int) (t:ByteArray) (lo hi:Int) (s:TStore):InC 30 s ⟨6,n,i,t,lo,hi⟩:=by
 intro S q w hs hv
 obtain⟨x0,x1,x2,x3,x4,x5,x6,x7,x8,x9,x10,x11,x12⟩:=s
 have HSt:=hide hs
 obtain⟨A0,c0,A1,c1,A2,c2,A3,c3,A6,c6,A7,c7,A8,c8,hq,e0,e1,e2,e3,e4,e5,e6,e7,e8,e9,e10,e11,e12,hlc0,hcm0,hlc1,hcm1,hlc2,hcm2,hlc3,hcm3,hlc6,hcm6,hlc7,hcm7,hlc8,hcm8,g4,g5,g10,g11,g12,-,-,HR2,-,-,-,-⟩:=StoreAt.opn hs
 clear hs
 have hqn:¬q=w.heap.size:=by omega
 have hts:=hv.t
 unfold maxLen at hts
 simp only at hts
 cases hw:wellB ⟨6,n,i,t,lo,hi⟩
 case false =>
  exact rk79
 case true =>
  have HW:=hide hw
  have hn:=well_n hw (by omega)
  have hIO:=hide ((inB_obj (s:=(TStore.mk x0 x1 x2 x3 x4 x5 x6 x7 x8 x9 x10 x11 x12)) hw (by show kindI 6≠0;rw[kindI_6];decide)).trans (objIn_has hn (by simp)))
  clear hw
  cases hh:hasB (TStore.mk x0 x1 x2 x3 x4 x5 x6 x7 x8 x9 x10 x11 x12) n 4
  ·
   have RR:=hide (show inB (TStore.mk x0 x1 x2 x3 x4 x5 x6 x7 x8 x9 x10 x11 x12) ⟨6,n,i,t,lo,hi⟩=false by rw[hIO.out];show hasB _ n (kindI 6)=_;rw[kindI_6];exact hh)
   exact rk2
  ·
   have RR:=hide (show inB (TStore.mk x0 x1 x2 x3 x4 x5 x6 x7 x8 x9 x10 x11 x12) ⟨6,n,i,t,lo,hi⟩=true by rw[hIO.out];show hasB _ n (kindI 6)=_;rw[kindI_6];exact hh)
   exact rk2
set_option maxHeartbeats 2000000 in
theorem implIn_7 (n i:Int) (t:ByteArray) (lo hi:Int) (s:TStore):InC 30 s ⟨7,n,i,t,lo,hi⟩:=by
 intro S q w hs hv
 obtain⟨x0,x1,x2,x3,x4,x5,x6,x7,x8,x9,x10,x11,x12⟩:=s
 have HSt:=hide hs
 obtain⟨A0,c0,A1,c1,A2,c2,A3,c3,A6,c6,A7,c7,A8,c8,hq,e0,e1,e2,e3,e4,e5,e6,e7,e8,e9,e10,e11,e12,hlc0,hcm0,hlc1,hcm1,hlc2,hcm2,hlc3,hcm3,hlc6,hcm6,hlc7,hcm7,hlc8,hcm8,g4,g5,g10,g11,g12,-,-,HR2,-,-,-,-⟩:=StoreAt.opn hs
 clear hs
 have hqn:¬q=w.heap.size:=by omega
 have hts:=hv.t
 unfold maxLen at hts
 simp only at hts
 cases hw:wellB ⟨7,n,i,t,lo,hi⟩
 case false =>
  exact rk79
 case true =>
  have HW:=hide hw
  have hn:=well_n hw (by omega)
  have hIO:=hide ((inB_obj (s:=(TStore.mk x0 x1 x2 x3 x4 x5 x6 x7 x8 x9 x10 x11 x12)) hw (by show kindI 7≠0;rw[kindI_7];decide)).trans (objIn_has hn (by simp)))
  clear hw
  cases hh:hasB (TStore.mk x0 x1 x2 x3 x4 x5 x6 x7 x8 x9 x10 x11 x12) n 5
  ·
   have RR:=hide (show inB (TStore.mk x0 x1 x2 x3 x4 x5 x6 x7 x8 x9 x10 x11 x12) ⟨7,n,i,t,lo,hi⟩=false by rw[hIO.out];show hasB _ n (kindI 7)=_;rw[kindI_7];exact hh)
   exact rk2
  ·
   have RR:=hide (show inB (TStore.mk x0 x1 x2 x3 x4 x5 x6 x7 x8 x9 x10 x11 x12) ⟨7,n,i,t,lo,hi⟩=true by rw[hIO.out];show hasB _ n (kindI 7)=_;rw[kindI_7];exact hh)
   exact rk2
set_option maxHeartbeats 2000000 in
theorem implIn_11 (n i:Int) (t:ByteArray) (lo hi:Int) (s:TStore):InC 30 s ⟨11,n,i,t,lo,hi⟩:=by
 intro S q w hs hv
 obtain⟨x0,x1,x2,x3,x4,x5,x6,x7,x8,x9,x10,x11,x12⟩:=s
 have HSt:=hide hs
 obtain⟨A0,c0,A1,c1,A2,c2,A3,c3,A6,c6,A7,c7,A8,c8,hq,e0,e1,e2,e3,e4,e5,e6,e7,e8,e9,e10,e11,e12,hlc0,hcm0,hlc1,hcm1,hlc2,hcm2,hlc3,hcm3,hlc6,hcm6,hlc7,hcm7,hlc8,hcm8,g4,g5,g10,g11,g12,-,-,HR2,-,-,-,-⟩:=StoreAt.opn hs
 clear hs
 have hqn:¬q=w.heap.size:=by omega
 have hts:=hv.t
 unfold maxLen at hts
 simp only at hts
 cases hw:wellB ⟨11,n,i,t,lo,hi⟩
 case false =>
  exact rk79
 case true =>
  have HW:=hide hw
  have hn:=well_n hw (by omega)
  have hIO:=hide ((inB_obj (s:=(TStore.mk x0 x1 x2 x3 x4 x5 x6 x7 x8 x9 x10 x11 x12)) hw (by show kindI 11≠0;rw[kindI_11];decide)).trans (objIn_has hn (by simp)))
  clear hw
  cases hh:hasB (TStore.mk x0 x1 x2 x3 x4 x5 x6 x7 x8 x9 x10 x11 x12) n 6
  ·
   have RR:=hide (show inB (TStore.mk x0 x1 x2 x3 x4 x5 x6 x7 x8 x9 x10 x11 x12) ⟨11,n,i,t,lo,hi⟩=false by rw[hIO.out];show hasB _ n (kindI 11)=_;rw[kindI_11];exact hh)
   exact rk2
  ·
   have RR:=hide (show inB (TStore.mk x0 x1 x2 x3 x4 x5 x6 x7 x8 x9 x10 x11 x12) ⟨11,n,i,t,lo,hi⟩=true by rw[hIO.out];show hasB _ n (kindI 11)=_;rw[kindI_11];exact hh)
   exact rk2
set_option maxHeartbeats 2000000 in
theorem implIn_12 (n i:Int) (t:ByteArray) (lo hi:Int) (s:TStore):InC 30 s ⟨12,n,i,t,lo,hi⟩:=by
 intro S q w hs hv
 obtain⟨x0,x1,x2,x3,x4,x5,x6,x7,x8,x9,x10,x11,x12⟩:=s
 have HSt:=hide hs
 obtain⟨A0,c0,A1,c1,A2,c2,A3,c3,A6,c6,A7,c7,A8,c8,hq,e0,e1,e2,e3,e4,e5,e6,e7,e8,e9,e10,e11,e12,hlc0,hcm0,hlc1,hcm1,hlc2,hcm2,hlc3,hcm3,hlc6,hcm6,hlc7,hcm7,hlc8,hcm8,g4,g5,g10,g11,g12,-,-,HR2,-,-,-,-⟩:=StoreAt.opn hs
 clear hs
 have hqn:¬q=w.heap.size:=by omega
 have hts:=hv.t
 unfold maxLen at hts
 simp only at hts
 cases hw:wellB ⟨12,n,i,t,lo,hi⟩
 case false =>
  exact rk79
 case true =>
  have HW:=hide hw
  have hn:=well_n hw (by omega)
  have hIO:=hide ((inB_obj (s:=(TStore.mk x0 x1 x2 x3 x4 x5 x6 x7 x8 x9 x10 x11 x12)) hw (by show kindI 12≠0;rw[kindI_12];decide)).trans (objIn_has hn (by simp)))
  clear hw
  cases hh:hasB (TStore.mk x0 x1 x2 x3 x4 x5 x6 x7 x8 x9 x10 x11 x12) n 7
  ·
   have RR:=hide (show inB (TStore.mk x0 x1 x2 x3 x4 x5 x6 x7 x8 x9 x10 x11 x12) ⟨12,n,i,t,lo,hi⟩=false by rw[hIO.out];show hasB _ n (kindI 12)=_;rw[kindI_12];exact hh)
   exact rk2
  ·
   have RR:=hide (show inB (TStore.mk x0 x1 x2 x3 x4 x5 x6 x7 x8 x9 x10 x11 x12) ⟨12,n,i,t,lo,hi⟩=true by rw[hIO.out];show hasB _ n (kindI 12)=_;rw[kindI_12];exact hh)
   exact rk2
end Go.Proofs.YtoikhhnmbbbjjaaDoor
