import Derived.Test.YtjngkknbpfgdcaaGreatDoorPr
import Derived.Test.YtjngkknbpfgdcaaGreatDoorPShelf
import Derived.Test.YtjngkknbpfgdcaaGreatDoorPB
import Derived.Laws.IdiomStrings
import Derived.Test.YtjngkknbpfgdcaaGreatDoorPA7
import Derived.Lib.BufferRead
set_option linter.unusedVariables false
set_option linter.unusedSimpArgs false
set_option maxRecDepth 100000
set_option maxHeartbeats 8000000
namespace Go.Proofs.YtjngkknbpfgdcaaGreatDoor
open Go.RowKit
def natD (m:Nat):List UInt8:=if m=0 then [] else Lib.decDigits m
theorem natD_step {m:Nat} (h:m≠0):natD m=natD (m / 10)++[UInt8.ofNat (48+m % 10)]:=by
 unfold natD
 rw[if_neg h]
 by_cases h1:m<10
 ·
  rw[Lib.decDigits_one h1,if_pos (by omega),show m % 10=m by omega];rfl
 ·
  rw[if_neg (by omega)]
  rw[Lib.decDigits,dif_neg h1]
theorem St:∀(k u:Nat),u<10 ^ (k+1)->Lib.nDigits u<=k+1
 | 0,u,h=>by rw[Lib.nDigits_small (by simpa using h)];omega
 | k+1,u,h=>by
  by_cases h1:u<10
  ·
   rw[Lib.nDigits_small h1];omega
  ·
   rw[Lib.nDigits_big h1]
   have:=St k (u / 10) (by rw[Nat.div_lt_iff_lt_mul (by omega),<-Nat.pow_succ];exact h)
   omega
theorem JN (n:Int) (w:World) (hn:fD n) :
  Calls Tryz.prog 124 #[.int .i64 n] w fun e w'=>e=.returned (.string ⟨(Lib.itoa n).toArray⟩)/\cE w w':=by
 unfold fD at hn
 by_cases h0:n=0
 ·
  subst h0
  rw[show (⟨(Lib.itoa 0).toArray⟩:ByteArray)=⟨#[48]⟩ by decide +kernel]
  go_enter Tryz.func124,Tryz.ntmps124
  go_wp2
  all_goals
   go_returns
   exact⟨rfl,bl⟩
 ·
  have hlen:(Lib.decDigits n.natAbs).length<=20:=by
   rw[Lib.decDigits_length]
   exact St 19 _ (by omega)
  go_enter Tryz.func124,Tryz.ntmps124
  go_wp2_with (fail)
  go_loopw [0,4] (fun v o wr=>∃(m:Int) (t:ByteArray),v=.int .i64 m/\o=.string t/\fD m/\Hid (natD m.natAbs++t.data.toList=Lib.decDigits n.natAbs)/\t.size<=20/\cE w wr) (fun v _ _=>(intOf v).natAbs)
  case atStart=>exact⟨n,ByteArray.empty,rfl,rfl,hn,by unfold natD;rw[if_neg (by omega)];exact List.append_nil _,by decide,bl⟩
  case round =>
   obtain⟨m,t,rfl,rfl,hm,hE,ht,hbw⟩:=hrel
   unfold fD at hm
   by_cases hz:m=0
   ·
    subst hz
    have hE0:t.data.toList=Lib.decDigits n.natAbs:=hE.out
    have hT:t=⟨(Lib.decDigits n.natAbs).toArray⟩:=by rw[<-hE0]
    by_cases hs:n<0
    ·
     have hR:(⟨(Lib.itoa n).toArray⟩:ByteArray)=(⟨#[45]⟩:ByteArray)++t:=by
      rw[hT]
      unfold Lib.itoa
      rw[if_pos hs]
      apply ByteArray.ext
      simp
     replace hR:=hide hR
     clear hT
     go_wp2_with (fail)
     all_goals
      go_returns
      exact⟨by rw[hR.out];rfl,bl⟩
    ·
     have hR:(⟨(Lib.itoa n).toArray⟩:ByteArray)=t:=by
      rw[hT]
      unfold Lib.itoa
      rw[if_neg hs,show n.natAbs=n.toNat by omega]
     replace hR:=hide hR
     clear hT
     go_wp2_with (fail)
     all_goals
      go_returns
      exact⟨by rw[hR.out];rfl,bl⟩
   ·
    have hq:(m.tdiv 10).natAbs=m.natAbs / 10:=Int.natAbs_tdiv m 10
    have hr:(m.tmod 10).natAbs=m.natAbs % 10:=Int.natAbs_tmod m 10
    have hw1:IntKind.i64.wrap (m.tdiv 10)=m.tdiv 10:=by rw[IntKind.wrap_i64] <;> omega
    have hw2:IntKind.i64.wrap (m.tmod 10)=m.tmod 10:=by rw[IntKind.wrap_i64] <;> omega
    have hcv:∀d:Int,d=((m.natAbs % 10:Nat):Int)->(convert 22 9 (.slice (some ⟨wr.heap.size,0,none⟩) 1 1)).run Tryz.prog (wr.alloc (.cells #[.int .u8 (48+d)] 5))=.ok (.string ⟨#[UInt8.ofNat (48+m.natAbs % 10)]⟩) (wr.alloc (.cells #[.int .u8 (48+d)] 5)):=by
     intro d hd
     refine run_convert_bytes_back (P:=Tryz.prog) (wr.alloc (.cells #[.int .u8 (48+d)] 5)) _ _ 5 ⟨wr.heap.size,0,none⟩ 1 [UInt8.ofNat (48+m.natAbs % 10)] Tryz.underlying22 Tryz.underlying5 Tryz.underlying9 (fun j hj=>?_)
     obtain rfl:j=0:=by simpa using hj
     rw[show (⟨wr.heap.size,0,none⟩:Addr).add 0=⟨wr.heap.size,0,none⟩from rfl,World.cell?_alloc_mark,hd]
     simp only[List.getElem?_toArray,List.getElem?_cons_zero,List.getElem_cons_zero,Option.some.injEq,Value.int.injEq,true_and]
     rw[UInt8.toNat_ofNat']
     omega
    have hE2:natD (m.tdiv 10).natAbs++((⟨#[UInt8.ofNat (48+m.natAbs % 10)]⟩:ByteArray)++t).data.toList=Lib.decDigits n.natAbs:=by
     rw[hq,<-hE.out,natD_step (show m.natAbs≠0 by omega)]
     simp
    have ht2:((⟨#[UInt8.ofNat (48+m.natAbs % 10)]⟩:ByteArray)++t).size<=20:=by
     have h1:=congrArg List.length hE.out
     rw[natD_step (show m.natAbs≠0 by omega),List.length_append,List.length_append,List.length_singleton]at h1
     have h2:t.data.toList.length=t.size:=Array.length_toList
     rw[ByteArray.size_append]
     have h3:(⟨#[UInt8.ofNat (48+m.natAbs % 10)]⟩:ByteArray).size=1:=rfl
     omega
    obtain⟨x,hx⟩:∃x,UInt8.ofNat (48+m.natAbs % 10)=x:=⟨_,rfl⟩
    simp only[hx]at hcv hE2 ht2
    clear hx
    replace hE2:=hide hE2
    by_cases hs:m.tmod 10<0
    ·
     have hc:=hcv (-m.tmod 10) (by omega)
     clear hcv
     go_wp2_with (fail)
     exact⟨⟨m.tdiv 10,_,rfl,rfl,⟨by omega,by omega⟩,hE2,ht2,bl⟩,by simp only[intOf];omega⟩
    ·
     have hc:=hcv (m.tmod 10) (by omega)
     clear hcv
     go_wp2_with (fail)
     exact⟨⟨m.tdiv 10,_,rfl,rfl,⟨by omega,by omega⟩,hE2,ht2,bl⟩,by simp only[intOf];omega⟩
def csB (lo hi:Int) (k:Nat):List Nat:=(List.range k).filter (rF lo hi)
theorem Ss {lo hi:Int} {k:Nat} (h:rF lo hi k=true):csB lo hi (k+1)=csB lo hi k++[k]:=by
 simp[csB,List.range_succ,h]
theorem MM {lo hi:Int} {k:Nat} (h:rF lo hi k=false):csB lo hi (k+1)=csB lo hi k:=by
 simp[csB,List.range_succ,h]
theorem zG (lo hi:Int) (k:Nat):(csB lo hi k).length<=k:=by
 have:=List.length_filter_le (rF lo hi) (List.range k)
 simpa[csB]using this
theorem YR (lo hi:Int) (k b:Nat) (h:b∈csB lo hi k):b<k:=by
 have:=(List.mem_filter.1 h).1
 simpa using this
def oq (lo hi:Int):ByteArray:=⟨((csB lo hi 128).map UInt8.ofNat).toArray⟩
theorem Tryz.TS:(Tryz.prog.info? 5).map (fun i=>(i.zero,i.size,i.bytes))=some (some (.int .u8 0),1,1):=by kernel_rfl
theorem Dg {wr w1:World} {base:Nat} {e:TypeId} {size:Nat} {v:Value} {n:Nat} {xs:List Value} (h:wr.ownsRow base e size v n xs) (hb:cE wr w1):w1.ownsRow base e size v n xs:=by
 refine⟨h.1,h.2.elim Or.inl (fun⟨g,cap,cur,hv,hg,hh,r⟩=>Or.inr ⟨g,cap,cur,hv,hg,?_,r⟩)⟩
 have hlt:g<wr.heap.size:=by
  rcases Nat.lt_or_ge g wr.heap.size with h' | h'
  ·
   exact h'
  ·
   rw[Array.getElem?_eq_none h']at hh;cases hh
 rw[Below.block hb g hlt];exact hh
theorem MN (lo hi:Int) (wr:World) (base:Nat) (v:Value) (h:wr.ownsRow base 5 1 v (csB lo hi 128).length ((csB lo hi 128).map fun b:Nat=>Value.int .u8 (b:Int))) :
  (convert 22 9 v).run Tryz.prog wr=.ok (.string (oq lo hi)) wr:=by
 have h':=h
 rcases h.2 with⟨rfl,h0⟩ | ⟨g,cap,cur,rfl,hg⟩
 ·
  have e:csB lo hi 128=[]:=by simpa using h0
  rw[Lib.run_convert_nil_bytes wr 22 9 5 0 Tryz.underlying22 Tryz.underlying5 Tryz.underlying9]
  unfold oq
  rw[e];rfl
 ·
  unfold oq
  have hB:=run_convert_bytes_back (P:=Tryz.prog) wr 22 9 5 ⟨g,0,none⟩ cap ((csB lo hi 128).map UInt8.ofNat) Tryz.underlying22 Tryz.underlying5 Tryz.underlying9 (fun j hj=>by
   have hj2:j<(csB lo hi 128).length:=bI
   rw[h'.cells rfl j (.int .u8 ((csB lo hi 128)[j]:Int)) (by simp[hj2])]
   have:=YR lo hi 128 _ (List.getElem_mem hj2)
   rw[List.getElem_map,UInt8.toNat_ofNat']
   congr 2
   omega)
  rw[aj]at hB
  exact hB
theorem xR (lo hi:Int) (w:World) :
  Calls Tryz.prog 122 #[.agg #[.int .i64 lo,.int .i64 hi]] w fun e w'=>e=.returned (.string (oq lo hi))/\cE w w':=by
 obtain⟨i0,hi0,iz0,iz1,iz2⟩:=info_parts Tryz.TS
 go_enter Tryz.func122,Tryz.ntmps122
 go_wp2_with (fail)
 go_loopw [3,4] (fun v i wr=>∃k:Nat,i=.int .i64 k/\k<=128/\wr.ownsRow (w.heap.size+1) 5 1 v (csB lo hi k).length ((csB lo hi k).map fun b:Nat=>Value.int .u8 (b:Int))/\wr.cell? ⟨w.heap.size,0,none⟩=some (.int .i64 lo)/\wr.cell? ⟨w.heap.size,1,none⟩=some (.int .i64 hi)/\cE w wr/\w.heap.size<wr.heap.size) (fun _ i _=>128 - (intOf i).toNat)
 case atStart =>
  exact abA
 case round =>
  obtain⟨k,rfl,hk,hown,hc0,hc1,hbw,hlt⟩:=hrel
  by_cases h:k<128
  ·
   have hd:decide ((k:Int)<128)=true:=aD
   have hw8:IntKind.u8.wrap (k:Int)=k:=b9
   cases hb:rF lo hi k
   ·
    have HB:=hide hb
    clear hb
    go_wp2_with ((go_at_call 146;refine (si lo hi k _ aB).mono ?_;rintro e w1 ⟨rfl,hb1⟩;have hz1:=hb1.sz;obtain⟨eA,fb,fc,fA⟩:=hb1.lay (w.heap.size);(try simp only[cV.val]));rw[HB.out])
    exact TT
   ·
    have HB:=hide hb
    clear hb
    go_wp2_with (first
     | ((go_at_call 146;refine (si lo hi k _ aB).mono ?_;rintro e w1 ⟨rfl,hb1⟩;have hz1:=hb1.sz;obtain⟨eA,fb,fc,fA⟩:=hb1.lay (w.heap.size);(try simp only[cV.val]));rw[HB.out];have hown1:=Dg hown hb1)
     | (at_builtin;go_loud (refine wpList_append_own _ rfl _ _ 22 rfl (w.heap.size+1) 5 i0 (.int .u8 0) 1 1 Tryz.underlying22 hi0 iz0 iz1 iz2 rfl aF _ _ _ rfl (hown1.alloc _) ⟨w1.heap.size,0,none⟩ 1 1 [.int .u8 k] rfl rfl ?c1 ?c2 ?c3 ?c4 ?c5 ?_)))
    case c1 =>
     intro j u hj
     match j,hj with
     | 0,hj=>simp at hj;subst hj;simp[Addr.add]
    case c2=>intro u hu;simp at hu;subst hu;rfl
    case c3=>have:=zG lo hi k;unfold maxLen;omega
    case c4=>have:=zG lo hi k;omega
    case c5=>simp;omega
    exact TU
  ·
   exact TV
theorem xS (lo hi:Int) (w:World) :
  Calls Tryz.prog 125 #[.agg #[.int .i64 lo,.int .i64 hi]] w fun e w'=>e=.returned (.string (oq lo hi))/\cE w w':=by
 obtain⟨i0,hi0,iz0,iz1,iz2⟩:=info_parts Tryz.TS
 go_enter Tryz.func125,Tryz.ntmps125
 go_wp2_with (fail)
 go_loopw [3,4] (fun v i wr=>∃k:Nat,i=.int .i64 k/\k<=128/\wr.ownsRow (w.heap.size+1) 5 1 v (csB lo hi k).length ((csB lo hi k).map fun b:Nat=>Value.int .u8 (b:Int))/\wr.cell? ⟨w.heap.size,0,none⟩=some (.int .i64 lo)/\wr.cell? ⟨w.heap.size,1,none⟩=some (.int .i64 hi)/\cE w wr/\w.heap.size<wr.heap.size) (fun _ i _=>128 - (intOf i).toNat)
 case atStart =>
  exact abA
 case round =>
  obtain⟨k,rfl,hk,hown,hc0,hc1,hbw,hlt⟩:=hrel
  by_cases h:k<128
  ·
   have hd:decide ((k:Int)<128)=true:=aD
   have hw8:IntKind.u8.wrap (k:Int)=k:=b9
   cases hb:rF lo hi k
   ·
    have HB:=hide hb
    clear hb
    go_wp2_with ((go_at_call 147;refine (se lo hi k _ aB).mono ?_;rintro e w1 ⟨rfl,hb1⟩;have hz1:=hb1.sz;obtain⟨eA,fb,fc,fA⟩:=hb1.lay (w.heap.size);(try simp only[cV.val]));rw[HB.out])
    exact TT
   ·
    have HB:=hide hb
    clear hb
    go_wp2_with (first
     | ((go_at_call 147;refine (se lo hi k _ aB).mono ?_;rintro e w1 ⟨rfl,hb1⟩;have hz1:=hb1.sz;obtain⟨eA,fb,fc,fA⟩:=hb1.lay (w.heap.size);(try simp only[cV.val]));rw[HB.out];have hown1:=Dg hown hb1)
     | (at_builtin;go_loud (refine wpList_append_own _ rfl _ _ 22 rfl (w.heap.size+1) 5 i0 (.int .u8 0) 1 1 Tryz.underlying22 hi0 iz0 iz1 iz2 rfl aF _ _ _ rfl (hown1.alloc _) ⟨w1.heap.size,0,none⟩ 1 1 [.int .u8 k] rfl rfl ?c1 ?c2 ?c3 ?c4 ?c5 ?_)))
    case c1 =>
     intro j u hj
     match j,hj with
     | 0,hj=>simp at hj;subst hj;simp[Addr.add]
    case c2=>intro u hu;simp at hu;subst hu;rfl
    case c3=>have:=zG lo hi k;unfold maxLen;omega
    case c4=>have:=zG lo hi k;omega
    case c5=>simp;omega
    exact TU
  ·
   exact TV
end Go.Proofs.YtjngkknbpfgdcaaGreatDoor
namespace Go.Proofs.YtjngkknbpfgdcaaGreatDoor
open Go.RowKit
open Go.Sort in
theorem MO (w:World) (q:Nat) (os:Array Obj):cE w (grow (w.drewN q) os) :=
 ⟨rfl,rfl,rfl,by simp[grow],fun i hi=>by
  show ((w.drewN q).heap++os)[i]?=_
  rw[Array.getElem?_append_left (by show i<w.heap.size;omega)]
  rfl⟩
theorem xc (n:Int) (w:World) (hn:fD n) (ht:Se w) :
  Calls Tryz.prog 121 #[.int .i64 n] w fun e w'=>e=.returned (.string ⟨(Lib.itoa n).toArray⟩)/\cE w w':=by
 have hI:=Tryz.strconv_Itoa n hn.1 hn.2 w ht
 go_enter Tryz.func121,Tryz.ntmps121
 go_wp2_with (go_at_call 145;refine hI.mono ?_;rintro e w1 ⟨rfl,k,os,hw1⟩;have hb1:cE w w1:=(by rw[hw1];exact MO w k os);clear hw1)
 all_goals
  go_returns
  exact⟨rfl,bl⟩
end Go.Proofs.YtjngkknbpfgdcaaGreatDoor
namespace Go.Proofs.YtjngkknbpfgdcaaGreatDoor
open Go.RowKit
def tM (v:cV):ByteArray:=if v.k=1 then⟨(Lib.itoa v.n).toArray⟩ else if v.k=2 then v.t else if v.k=3/\(oq v.lo v.hi).size<=120 then oq v.lo v.hi else ByteArray.empty
def uy (v:cV):Bool:=decide (v.k=1)||decide (v.k=2)||(decide (v.k=3)&&decide ((oq v.lo v.hi).size<=120))
theorem oP (v:cV) (w:World) (hv:v.Ok) :
  Calls Tryz.prog 91 #[v.val] w fun e w'=>e=.returned (.tuple #[.string (tM v),.bool (uy v)])/\cE w w':=by
 have hn:=hv.n
 obtain⟨k,n,i,t,lo,hi⟩:=v
 simp only[cV.val]
 simp only at hn
 by_cases h1:k=1
 ·
  subst h1
  rw[show tM ⟨1,n,i,t,lo,hi⟩=⟨(Lib.itoa n).toArray⟩from rfl,show uy ⟨1,n,i,t,lo,hi⟩=true by simp[uy]]
  exact MP
 by_cases h2:k=2
 ·
  subst h2
  rw[show tM ⟨2,n,i,t,lo,hi⟩=t from rfl,show uy ⟨2,n,i,t,lo,hi⟩=true by simp[uy]]
  exact MP
 by_cases h3:k=3
 ·
  subst h3
  by_cases hz:(oq lo hi).size<=120
  ·
   rw[show tM ⟨3,n,i,t,lo,hi⟩=oq lo hi by simp[tM,hz],show uy ⟨3,n,i,t,lo,hi⟩=true by simp[uy,hz]]
   exact MP
  ·
   rw[show tM ⟨3,n,i,t,lo,hi⟩=ByteArray.empty by simp[tM,hz],show uy ⟨3,n,i,t,lo,hi⟩=false by simp[uy,hz]]
   exact MP
 ·
  rw[show tM ⟨k,n,i,t,lo,hi⟩=ByteArray.empty by simp[tM,h1,h2,h3],show uy ⟨k,n,i,t,lo,hi⟩=false by simp[uy,h1,h2,h3]]
  have e1:(k==1)=false:=aX
  have e2:(k==2)=false:=bu
  have e3:(k==3)=false:=ct
  exact MP
theorem oQ (v:cV) (w:World) (hv:v.Ok) (ht:Se w) :
  Calls Tryz.prog 86 #[v.val] w fun e w'=>e=.returned (.tuple #[.string (tM v),.bool (uy v)])/\cE w w':=by
 have hn:=hv.n
 obtain⟨k,n,i,t,lo,hi⟩:=v
 simp only[cV.val]
 simp only at hn
 by_cases h1:k=1
 ·
  subst h1
  rw[show tM ⟨1,n,i,t,lo,hi⟩=⟨(Lib.itoa n).toArray⟩from rfl,show uy ⟨1,n,i,t,lo,hi⟩=true by simp[uy]]
  exact MQ
 by_cases h2:k=2
 ·
  subst h2
  rw[show tM ⟨2,n,i,t,lo,hi⟩=t from rfl,show uy ⟨2,n,i,t,lo,hi⟩=true by simp[uy]]
  exact MQ
 by_cases h3:k=3
 ·
  subst h3
  by_cases hz:(oq lo hi).size<=120
  ·
   rw[show tM ⟨3,n,i,t,lo,hi⟩=oq lo hi by simp[tM,hz],show uy ⟨3,n,i,t,lo,hi⟩=true by simp[uy,hz]]
   exact MQ
  ·
   rw[show tM ⟨3,n,i,t,lo,hi⟩=ByteArray.empty by simp[tM,hz],show uy ⟨3,n,i,t,lo,hi⟩=false by simp[uy,hz]]
   exact MQ
 ·
  rw[show tM ⟨k,n,i,t,lo,hi⟩=ByteArray.empty by simp[tM,h1,h2,h3],show uy ⟨k,n,i,t,lo,hi⟩=false by simp[uy,h1,h2,h3]]
  have e1:(k==1)=false:=aX
  have e2:(k==2)=false:=bu
  have e3:(k==3)=false:=ct
  exact MQ
def ldF (s:ByteArray):Nat->Nat->Nat
 | 0,i=>i
 | f+1,i=>if byteAt s i=32 then ldF s f (i+1) else i
def ld (s:ByteArray) (i:Nat):Nat:=ldF s (s.size - i) i
theorem YS {s:ByteArray} {i:Nat} (h:i<s.size) (hb:byteAt s i=32):ld s (i+1)=ld s i:=by
 unfold ld
 rw[show s.size - i=(s.size - (i+1))+1 by omega,ldF,if_pos hb]
theorem abC {s:ByteArray} {i:Nat} (h:¬(i<s.size/\byteAt s i=32)):ld s i=i:=by
 unfold ld
 by_cases h1:i<s.size
 ·
  rw[show s.size - i=(s.size - (i+1))+1 by omega,ldF,if_neg (fun e=>h ⟨h1,e⟩)]
 ·
  rw[show s.size - i=0 by omega,ldF]
def trF (s:ByteArray):Nat->Nat->Nat
 | 0,z=>z
 | f+1,z=>if byteAt s (z - 1)=32 then trF s f (z - 1) else z
def tr (s:ByteArray) (a z:Nat):Nat:=trF s (z - a) z
theorem YT {s:ByteArray} {a z:Nat} (h:a<z) (hb:byteAt s (z - 1)=32):tr s a (z - 1)=tr s a z:=by
 unfold tr
 rw[show z - a=(z - 1 - a)+1 by omega,trF,if_pos hb]
theorem abE {s:ByteArray} {a z:Nat} (h:¬(a<z/\byteAt s (z - 1)=32)):tr s a z=z:=by
 unfold tr
 by_cases h1:a<z
 ·
  rw[show z - a=(z - 1 - a)+1 by omega,trF,if_neg (fun e=>h ⟨h1,e⟩)]
 ·
  rw[show z - a=0 by omega,trF]
def TW (s:ByteArray):Nat->Nat->Int->Option Int
 | 0,_,v=>some v
 | f+1,a,v=>if 48<=byteAt s a/\byteAt s a<=57 then TW s f (a+1) (10*v+byteAt s a - 48) else none
def dv (s:ByteArray) (z a:Nat) (v:Int):Option Int:=TW s (z - a) a v
theorem YU {s:ByteArray} {z a:Nat} {v:Int} (h:¬a<z):dv s z a v=some v:=by
 unfold dv
 rw[show z - a=0 by omega,TW]
theorem YV {s:ByteArray} {z a:Nat} {v:Int} (h:a<z) (hb:¬(48<=byteAt s a/\byteAt s a<=57)):dv s z a v=none:=by
 unfold dv
 rw[show z - a=(z - (a+1))+1 by omega,TW,if_neg hb]
theorem GC {s:ByteArray} {z a:Nat} {v:Int} (h:a<z) (hb:48<=byteAt s a/\byteAt s a<=57):dv s z (a+1) (10*v+byteAt s a - 48)=dv s z a v:=by
 unfold dv
 rw[show z - a=(z - (a+1))+1 by omega,TW,if_pos hb]
def qh (s:ByteArray):Nat:=ld s 0
def sU (s:ByteArray):Nat:=tr s (qh s) s.size
def nx (s:ByteArray):Bool:=decide (qh s<sU s)&&(decide (byteAt s (qh s)=45)||decide (byteAt s (qh s)=43))
def sV (s:ByteArray):Nat:=if nx s then qh s+1 else qh s
def qi (s:ByteArray):Bool:=nx s&&decide (byteAt s (qh s)=45)
def Dh (s:ByteArray):Int × Bool :=
 if sU s<sV s+1\/sV s+12<sU s then (0,false)
 else match dv s (sU s) (sV s) 0 with
  | none=>(0,false)
  | some v=>(if qi s then -v else v,true)
theorem tN {s:ByteArray} (h:sU s<sV s+1):Dh s=(0,false):=by unfold Dh;rw[if_pos (.inl h)]
theorem zM {s:ByteArray} (h:sV s+12<sU s):Dh s=(0,false):=by unfold Dh;rw[if_pos (.inr h)]
theorem Di {s:ByteArray} (h:dv s (sU s) (sV s) 0=none):Dh s=(0,false):=by
 unfold Dh
 rw[h]
 split <;> rfl
theorem zN {s:ByteArray} {v:Int} (h1:¬sU s<sV s+1) (h2:¬sV s+12<sU s) (h:dv s (sU s) (sV s) 0=some v):Dh s=(if qi s then -v else v,true):=by
 unfold Dh
 rw[h,if_neg aB]
theorem JP {s:ByteArray} (h:¬qh s<sU s):sV s=qh s/\qi s=false:=by
 have:nx s=false:=by simp[nx,h]
 simp[sV,qi,this]
theorem GD {s:ByteArray} (h:qh s<sU s) (hc:byteAt s (qh s)=45):sV s=qh s+1/\qi s=true:=by
 have:nx s=true:=by simp[nx,h,hc]
 simp[sV,qi,this,hc]
theorem JQ {s:ByteArray} (h:qh s<sU s) (hc:byteAt s (qh s)=43):sV s=qh s+1/\qi s=false:=by
 have:nx s=true:=by simp[nx,h,hc]
 simp[sV,qi,this,hc]
theorem GG {s:ByteArray} (h1:¬byteAt s (qh s)=45) (h2:¬byteAt s (qh s)=43):sV s=qh s/\qi s=false:=by
 have:nx s=false:=by simp[nx,h1,h2]
 simp[sV,qi,this]
def VB (v:Int) (j:Nat):Prop:=0<=v/\v<10 ^ j
theorem VB.zero:VB 0 0:=⟨by decide,by decide⟩
theorem VB.step {v:Int} {j c:Nat} (h:VB v j) (h1:48<=c) (h2:c<=57):VB (10*v+c - 48) (j+1):=by
 obtain⟨a,b⟩:=h
 refine⟨by omega,?_⟩
 rw[Int.pow_succ]
 omega
theorem VB.le {v:Int} {j:Nat} (h:VB v j) (hj:j<=12):0<=v/\v<1000000000000:=by
 refine⟨h.1,Int.lt_of_lt_of_le h.2 ?_⟩
 have:(10:Nat) ^ j<=10 ^ 12:=Nat.pow_le_pow_right aB hj
 have e:((10:Int) ^ j)=((10 ^ j:Nat):Int):=aK
 rw[e]
 generalize 10 ^ j=p at *
 omega
theorem Eu (s:ByteArray) (w:World) (hs:s.size<=maxLen) :
  Calls Tryz.prog 123 #[.string s] w fun e w'=>e=.returned (.tuple #[.int .i64 (Dh s).1,.bool (Dh s).2])/\cE w w':=by
 unfold maxLen at hs
 go_enter Tryz.func123,Tryz.ntmps123
 exact TX
def Dj (w:World) (b:Nat) (x y:Int):Prop:=w.cell? ⟨b,0,none⟩=some (.int .i64 x)/\w.cell? ⟨b,1,none⟩=some (.int .i64 y)/\w.frozen? ⟨b,0,none⟩=false/\w.frozen? ⟨b,1,none⟩=false/\b<w.heap.size
theorem Dj.on {w w':World} {b:Nat} {x y:Int} (h:Dj w b x y) (hb:cE w w'):Dj w' b x y :=
 ⟨(hb.box b h.2.2.2.2 0).trans h.1,(hb.box b h.2.2.2.2 1).trans h.2.1,(hb.De b h.2.2.2.2 0).trans h.2.2.1,(hb.De b h.2.2.2.2 1).trans h.2.2.2.1,ak h.2.2.2.2 hb.size⟩
theorem Dj.put {w:World} {b:Nat} {x y:Int} (h:Dj w b x y) (x' y':Int):Dj ((w.setCell ⟨b,0,none⟩ (.int .i64 x')).setCell ⟨b,1,none⟩ (.int .i64 y')) b x' y':=by
 obtain⟨h0,h1,h2,h3,h4⟩:=h
 have n1:(⟨b,0,none⟩:Addr)≠⟨b,1,none⟩:=aK
 refine⟨?_,?_,by simpa using h2,by simpa using h3,by simpa using h4⟩
 ·
  rw[World.cell?_setCell_other (h:=n1.symm),World.cell?_setCell_same (h:=h0)]
 ·
  rw[World.cell?_setCell_same (u:=.int .i64 y) (h:=?_)]
  rw[World.cell?_setCell_other (h:=n1)];exact h1
theorem Dj.apart {w:World} {b b':Nat} {x y:Int} (h:Dj w b x y) (hn:b'≠b) (u v:Value):Dj ((w.setCell ⟨b',0,none⟩ u).setCell ⟨b',1,none⟩ v) b x y:=by
 obtain⟨h0,h1,h2,h3,h4⟩:=h
 refine⟨?_,?_,by simpa using h2,by simpa using h3,by simpa using h4⟩
 ·
  rw[World.cell?_setCell_far _ _ _ _ hn,World.cell?_setCell_far _ _ _ _ hn];exact h0
 ·
  rw[World.cell?_setCell_far _ _ _ _ hn,World.cell?_setCell_far _ _ _ _ hn];exact h1
theorem Ev (s:ByteArray) (w:World) (hs:s.size<=maxLen) :
  Calls Tryz.prog 126 #[.string s] w fun e w'=>e=.returned (.tuple #[.int .i64 (Dh s).1,.bool (Dh s).2])/\cE w w':=by
 unfold maxLen at hs
 go_enter Tryz.func126,Tryz.ntmps126
 exact TX
theorem cV.Ok.tt {v:cV} (h:v.Ok):(tM v).size<=maxLen:=by
 unfold tM
 split
 ·
  have hn:=h.n
  unfold fD at hn
  unfold maxLen
  have h1:(Lib.decDigits v.n.natAbs).length<=20:=by
   rw[Lib.decDigits_length]
   exact St 19 _ aB
  have h2:(Lib.decDigits v.n.toNat).length<=20:=by
   rw[Lib.decDigits_length]
   exact St 19 _ aB
  show (Lib.itoa v.n).toArray.size<=_
  unfold Lib.itoa
  split
  ·
   simp;omega
  ·
   simp;omega
 split
 ·
  exact h.t
 split
 ·
  rename_i h3
  unfold maxLen
  omega
 ·
  decide
def BA (v:cV):Int:=if v.k=1 then v.n else if uy v then (Dh (tM v)).1 else 0
def Dk (v:cV):Bool:=if v.k=1 then true else uy v&&(Dh (tM v)).2
theorem mC (v:cV) (w:World) (hv:v.Ok) :
  Calls Tryz.prog 92 #[v.val] w fun e w'=>e=.returned (.tuple #[.int .i64 (BA v),.bool (Dk v)])/\cE w w':=by
 have hT:=hv.tt
 obtain⟨k,n,i,t,lo,hi⟩:=v
 simp only[cV.val]
 by_cases h1:k=1
 ·
  subst h1
  go_enter Tryz.func92,Tryz.ntmps92
  go_wp2_with (fail)
  all_goals
   go_returns
   exact⟨rfl,bl⟩
 ·
  have e1:(k==1)=false:=aX
  have h1':=hide h1
  clear h1
  cases hB:uy ⟨k,n,i,t,lo,hi⟩
  ·
   have HB:=hide hB
   clear hB
   have R0:=hide (show BA ⟨k,n,i,t,lo,hi⟩=0 by simp[BA,h1'.out,HB.out])
   have R1:=hide (show Dk ⟨k,n,i,t,lo,hi⟩=false by simp[Dk,h1'.out,HB.out])
   exact abG
  ·
   have HB:=hide hB
   clear hB
   have R0:=hide (show BA ⟨k,n,i,t,lo,hi⟩=(Dh (tM ⟨k,n,i,t,lo,hi⟩)).1 by simp[BA,h1'.out,HB.out])
   have R1:=hide (show Dk ⟨k,n,i,t,lo,hi⟩=(Dh (tM ⟨k,n,i,t,lo,hi⟩)).2 by simp[Dk,h1'.out,HB.out])
   exact abG
theorem mD (v:cV) (w:World) (hv:v.Ok) (htab:Se w) :
  Calls Tryz.prog 87 #[v.val] w fun e w'=>e=.returned (.tuple #[.int .i64 (BA v),.bool (Dk v)])/\cE w w':=by
 have hT:=hv.tt
 obtain⟨k,n,i,t,lo,hi⟩:=v
 simp only[cV.val]
 by_cases h1:k=1
 ·
  subst h1
  go_enter Tryz.func87,Tryz.ntmps87
  go_wp2_with (fail)
  all_goals
   go_returns
   exact⟨rfl,bl⟩
 ·
  have e1:(k==1)=false:=aX
  have h1':=hide h1
  clear h1
  cases hB:uy ⟨k,n,i,t,lo,hi⟩
  ·
   have HB:=hide hB
   clear hB
   have R0:=hide (show BA ⟨k,n,i,t,lo,hi⟩=0 by simp[BA,h1'.out,HB.out])
   have R1:=hide (show Dk ⟨k,n,i,t,lo,hi⟩=false by simp[Dk,h1'.out,HB.out])
   exact abH
  ·
   have HB:=hide hB
   clear hB
   have R0:=hide (show BA ⟨k,n,i,t,lo,hi⟩=(Dh (tM ⟨k,n,i,t,lo,hi⟩)).1 by simp[BA,h1'.out,HB.out])
   have R1:=hide (show Dk ⟨k,n,i,t,lo,hi⟩=(Dh (tM ⟨k,n,i,t,lo,hi⟩)).2 by simp[Dk,h1'.out,HB.out])
   exact abH
end Go.Proofs.YtjngkknbpfgdcaaGreatDoor
