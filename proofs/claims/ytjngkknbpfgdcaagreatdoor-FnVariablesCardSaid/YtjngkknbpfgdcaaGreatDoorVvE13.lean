import Derived.Test.YtjngkknbpfgdcaaGreatDoorVvShelf
set_option linter.unusedVariables false
set_option linter.unusedSimpArgs false
set_option maxRecDepth 100000
set_option maxHeartbeats 8000000
namespace Go.Proofs.YtjngkknbpfgdcaaGreatDoor
open Go.RowKit Go.Proofs.Tryz
def orB (x:Int) (b:Nat):Int:=IntKind.i64.wrap ((BitVec.ofInt 64 x ||| BitVec.twoPow 64 b).toNat:Int)
theorem PJ (x:Int) (b:Nat) (h:b<64):bits .or .i64 x (wrap64 (2 ^ b))=orB x b:=by
 show IntKind.i64.wrap ((BitVec.ofInt 64 x ||| BitVec.ofInt 64 (wrap64 (2 ^ b))).toNat:Int)=_
 rw[tE b h];rfl
theorem PK (x:Int) (b:Nat):dT (orB x b):=by
 unfold orB dT
 rw[IntKind.wrap_i64]
 omega
def vA (lo:Int) (b:Nat):Int:=if b<64 then orB lo b else lo
def vB (hi:Int) (b:Nat):Int:=if b<64 then hi else orB hi (b - 64)
def Xp (s:cx):Nat->Nat->Int->Int->Option (Int × Int)
 | 0,_,lo,hi=>some (lo,hi)
 | f+1,i,lo,hi=>if ft s i<=127 then Xp s f (i+1) (vA lo (ft s i)) (vB hi (ft s i)) else none
def ns (s:cx) (i:Nat) (lo hi:Int):Option (Int × Int):=Xp s (s.size - i) i lo hi
theorem aaI {s:cx} {i:Nat} {lo hi:Int} (h:¬i<s.size):ns s i lo hi=some (lo,hi):=by
 unfold ns
 rw[show s.size - i=0 by omega,Xp]
theorem aaJ {s:cx} {i:Nat} {lo hi:Int} (h:i<s.size) (hb:¬ft s i<=127):ns s i lo hi=none:=by
 unfold ns
 rw[show s.size - i=(s.size - (i+1))+1 by omega,Xp,if_neg hb]
theorem aaK {s:cx} {i:Nat} {lo hi:Int} (h:i<s.size) (hb:ft s i<=127):ns s (i+1) (vA lo (ft s i)) (vB hi (ft s i))=ns s i lo hi:=by
 unfold ns
 rw[show s.size - i=(s.size - (i+1))+1 by omega,Xp,if_pos hb]
def E4 (s:cx):Int:=((ns s 0 0 0).getD (0,0)).1
def E5 (s:cx):Int:=((ns s 0 0 0).getD (0,0)).2
def IX (s:cx):Bool:=(ns s 0 0 0).isSome
theorem zB (lo hi:Int) (b:Nat) (w:World) (hb:b<=127) :
  Calls prog 144 #[.agg #[.int .i64 lo,.int .i64 hi],.int .u8 b] w fun e w'=>e=.returned (.agg #[.int .i64 (vA lo b),.int .i64 (vB hi b)])/\U w w':=by
 have B1:=I (PJ lo b)
 have B2:=I (PJ hi (b - 64))
 go_enter func144,ntmps144
 go_wp2
 all_goals
  go_returns
  try go_light
  refine⟨?_,bl⟩
  have B1:=B1.out
  have B2:=B2.out
  (try simp only[Array.getD_eq_getD_getElem?,List.getElem?_toArray,List.getElem?_cons_succ,List.getElem?_cons_zero,Option.getD_some])
  unfold vA vB
  grind
def nk (w:World) (b:Nat) (x y:Int):Prop:=w.cell? ⟨b,0,none⟩=some (.int .i64 x)/\w.cell? ⟨b,1,none⟩=some (.int .i64 y)/\w.frozen? ⟨b,0,none⟩=false/\w.frozen? ⟨b,1,none⟩=false/\b<w.heap.size
theorem nk.on {w w':World} {b:Nat} {x y:Int} (h:nk w b x y) (hb:U w w'):nk w' b x y :=
 ⟨(hb.box b h.2.2.2.2 0).trans h.1,(hb.box b h.2.2.2.2 1).trans h.2.1,(hb.IL b h.2.2.2.2 0).trans h.2.2.1,(hb.IL b h.2.2.2.2 1).trans h.2.2.2.1,au h.2.2.2.2 hb.size⟩
theorem nk.put {w:World} {b:Nat} {x y:Int} (h:nk w b x y) (x' y':Int):nk ((w.setCell ⟨b,0,none⟩ (.int .i64 x')).setCell ⟨b,1,none⟩ (.int .i64 y')) b x' y':=by
 obtain⟨h0,h1,h2,h3,h4⟩:=h
 have n1:(⟨b,0,none⟩:Addr)≠⟨b,1,none⟩:=aJ
 refine⟨?_,?_,by simpa using h2,by simpa using h3,by simpa using h4⟩
 ·
  rw[World.cell?_setCell_other (h:=n1.symm),World.cell?_setCell_same (h:=h0)]
 ·
  rw[World.cell?_setCell_same (u:=.int .i64 y) (h:=?_)]
  rw[World.cell?_setCell_other (h:=n1)];exact h1
theorem nk.apart {w:World} {b b':Nat} {x y:Int} (h:nk w b x y) (hn:b'≠b) (u v:Value):nk ((w.setCell ⟨b',0,none⟩ u).setCell ⟨b',1,none⟩ v) b x y:=by
 obtain⟨h0,h1,h2,h3,h4⟩:=h
 refine⟨?_,?_,by simpa using h2,by simpa using h3,by simpa using h4⟩
 ·
  rw[World.cell?_setCell_far _ _ _ _ hn,World.cell?_setCell_far _ _ _ _ hn];exact h0
 ·
  rw[World.cell?_setCell_far _ _ _ _ hn,World.cell?_setCell_far _ _ _ _ hn];exact h1
theorem sT (s:cx) (w:World) (hs:s.size<=maxLen) :
  Calls prog 120 #[.string s] w fun e w'=>e=.returned (.tuple #[.agg #[.int .i64 (E4 s),.int .i64 (E5 s)],.bool (IX s)])/\U w w':=by
 unfold maxLen at hs
 go_enter func120,ntmps120
 go_wp2_with (fail)
 go_loopw [5] (fun i wr=>∃(k:Nat) (lo hi:Int),i=.int .i64 k/\k<=s.size/\Hid (ns s k lo hi=ns s 0 0 0)/\nk wr w.heap.size 0 0/\nk wr (w.heap.size+1) lo hi/\U w wr) (fun i _=>s.size - (intOf i).toNat)
 case atStart=>exact⟨0,0,0,rfl,by omega,rfl,⟨by simp,by simp,by simp,by simp,by simp;omega⟩,⟨by simp,by simp,by simp,by simp,by simp⟩,bl⟩
 case round =>
  obtain⟨k,lo,hi,rfl,hk,hN,cp,C,dX⟩:=hrel
  have R':=cp
  have C':=C
  obtain⟨r0,r1,r2,r3,r4⟩:=R'
  obtain⟨c0,c1,c2,c3,c4⟩:=C'
  by_cases h1:k<s.size
  ·
   have hd:decide ((k:Int)<(s.size:Int))=true:=aH
   have hB:=I (lY s k h1)
   by_cases h2:ft s k<=127
   ·
    have h3:s[k].toNat<=127:=by rw[hB.out];exact h2
    have hE:=I (aaK (lo:=lo) (hi:=hi) h1 h2)
    have Kv:U wr wr.drew:=bl
    have R1:=cp.on Kv
    have C1:=C.on Kv
    go_wp2_with (fail)
    (refine wp_region_still_tail 4 aG aG ?_;simp only[List.take_succ_cons,List.take_zero,List.drop_succ_cons,List.drop_zero];change wpStill _ _ (World.drew (wr)) _ _ _)
    repeat still_step
    refine wpStill_nil ?_
    clear r0 r1 r2 r3 r4 c0 c1 c2 c3 c4
    go_wp2_with (go_at_call 144;rw[hB.out];refine (zB lo hi _ _ h2).mono ?_;rintro e w3 ⟨rfl,jx⟩;have R3:=R1.on jx;have C3:=C1.on jx;obtain⟨c0,c1,c2,c3,c4⟩:=C3)
    have R4:=R3.apart (b':=w.heap.size+1) aF (.int .i64 (vA lo (ft s k))) (.int .i64 (vB hi (ft s k)))
    have C4:=nk.put (⟨c0,c1,c2,c3,c4⟩:nk w3 (w.heap.size+1) lo hi) (vA lo (ft s k)) (vB hi (ft s k))
    exact⟨⟨k+1,_,_,rfl,h1,I (hE.out.trans hN.out),R4,C4,bl⟩,by simp only[intOf];omega⟩
   ·
    have h3:127<s[k].toNat:=by rw[hB.out];omega
    have hE:=I (aaJ (lo:=lo) (hi:=hi) h1 h2)
    have e1:=I (show ns s 0 0 0=none from hN.out.symm.trans hE.out)
    go_wp2_with (fail)
    have D:=cp.put 0 0
    obtain⟨d0,d1,d2,d3,d4⟩:=D
    rw[show E4 s=0 by unfold E4;rw[e1.out];rfl,show E5 s=0 by unfold E5;rw[e1.out];rfl,show IX s=false by unfold IX;rw[e1.out];rfl]
    exact bodyPost_ret (by simp[results,results120,d0,d1,go_sem];try rfl) rfl ⟨rfl,bl⟩
  ·
   have hE:=I (aaI (lo:=lo) (hi:=hi) h1)
   have hd:decide ((k:Int)<(s.size:Int))=false:=aH
   have e1:=I (show ns s 0 0 0=some (lo,hi)from hN.out.symm.trans hE.out)
   go_wp2_with (fail)
   have D:=cp.put lo hi
   obtain⟨d0,d1,d2,d3,d4⟩:=D
   rw[show E4 s=lo by unfold E4;rw[e1.out];rfl,show E5 s=hi by unfold E5;rw[e1.out];rfl,show IX s=true by unfold IX;rw[e1.out];rfl]
   exact bodyPost_ret (by simp[results,results120,d0,d1,go_sem];try rfl) rfl ⟨rfl,bl⟩
def CT (lo hi:Int) (k:Nat):List Nat:=(List.range k).filter (sB lo hi)
theorem U6 {lo hi:Int} {k:Nat} (h:sB lo hi k=true):CT lo hi (k+1)=CT lo hi k++[k]:=by
 simp[CT,List.range_succ,h]
theorem PL {lo hi:Int} {k:Nat} (h:sB lo hi k=false):CT lo hi (k+1)=CT lo hi k:=by
 simp[CT,List.range_succ,h]
theorem Bb (lo hi:Int) (k:Nat):(CT lo hi k).length<=k:=by
 have:=List.length_filter_le (sB lo hi) (List.range k)
 simpa[CT]using this
theorem aaL (lo hi:Int) (k b:Nat) (h:b∈CT lo hi k):b<k:=by
 have:=(List.mem_filter.1 h).1
 simpa using this
def oP (lo hi:Int):cx:=⟨((CT lo hi 128).map UInt8.ofNat).toArray⟩
theorem Tryz.Xq:(prog.info? 5).map (fun i=>(i.zero,i.size,i.bytes))=some (some (.int .u8 0),1,1):=by kernel_rfl
theorem Fe {wr w1:World} {base:Nat} {e:TypeId} {size:Nat} {v:Value} {n:Nat} {xs:List Value} (h:wr.ownsRow base e size v n xs) (hb:U wr w1):w1.ownsRow base e size v n xs:=by
 refine⟨h.1,h.2.elim Or.inl (fun⟨g,cap,cur,hv,hg,hh,r⟩=>Or.inr ⟨g,cap,cur,hv,hg,?_,r⟩)⟩
 have jP:g<wr.heap.size:=by
  rcases Nat.lt_or_ge g wr.heap.size with h' | h'
  ·
   exact h'
  ·
   rw[Array.getElem?_eq_none h']at hh;cases hh
 rw[Below.block hb g jP];exact hh
theorem PM (lo hi:Int) (wr:World) (base:Nat) (v:Value) (h:wr.ownsRow base 5 1 v (CT lo hi 128).length ((CT lo hi 128).map fun b:Nat=>Value.int .u8 (b:Int))) :
  (convert 22 9 v).run prog wr=.ok (.string (oP lo hi)) wr:=by
 have h':=h
 rcases h.2 with⟨rfl,h0⟩ | ⟨g,cap,cur,rfl,hg⟩
 ·
  have e:CT lo hi 128=[]:=by simpa using h0
  rw[Lib.run_convert_nil_bytes wr 22 9 5 0 underlying22 underlying5 underlying9]
  unfold oP
  rw[e];rfl
 ·
  unfold oP
  have hB:=run_convert_bytes_back (P:=prog) wr 22 9 5 ⟨g,0,none⟩ cap ((CT lo hi 128).map UInt8.ofNat) underlying22 underlying5 underlying9 (fun j hj=>by
   have UP:j<(CT lo hi 128).length:=bA
   rw[h'.cells rfl j (.int .u8 ((CT lo hi 128)[j]:Int)) (by simp[UP])]
   have:=aaL lo hi 128 _ (List.getElem_mem UP)
   rw[List.getElem_map,UInt8.toNat_ofNat']
   congr 2
   omega)
  rw[ar]at hB
  exact hB
theorem yW (lo hi:Int) (w:World) :
  Calls prog 122 #[.agg #[.int .i64 lo,.int .i64 hi]] w fun e w'=>e=.returned (.string (oP lo hi))/\U w w':=by
 obtain⟨i0,jh,iz0,iz1,iz2⟩:=info_parts Tryz.Xq
 go_enter func122,ntmps122
 go_wp2_with (fail)
 go_loopw [3,4] (fun v i wr=>∃k:Nat,i=.int .i64 k/\k<=128/\wr.ownsRow (w.heap.size+1) 5 1 v (CT lo hi k).length ((CT lo hi k).map fun b:Nat=>Value.int .u8 (b:Int))/\wr.cell? ⟨w.heap.size,0,none⟩=some (.int .i64 lo)/\wr.cell? ⟨w.heap.size,1,none⟩=some (.int .i64 hi)/\U w wr/\w.heap.size<wr.heap.size) (fun _ i _=>128 - (intOf i).toNat)
 case atStart =>
  exact aeR
 case round =>
  obtain⟨k,rfl,hk,lu,rQ,vx,dX,jP⟩:=hrel
  by_cases h:k<128
  ·
   have hd:decide ((k:Int)<128)=true:=aH
   have I8:IntKind.u8.wrap (k:Int)=k:=bJ
   cases hb:sB lo hi k
   ·
    have HB:=I hb
    clear hb
    go_wp2_with ((go_at_call 146;refine (sQ lo hi k _ aF).mono ?_;rintro e w1 ⟨rfl,dE⟩;have jZ:=dE.sz;obtain⟨fA,fJ,fI,fP⟩:=dE.lay (w.heap.size);(try simp only[cC.val]));rw[HB.out])
    exact Xr
   ·
    have HB:=I hb
    clear hb
    go_wp2_with (first
     | ((go_at_call 146;refine (sQ lo hi k _ aF).mono ?_;rintro e w1 ⟨rfl,dE⟩;have jZ:=dE.sz;obtain⟨fA,fJ,fI,fP⟩:=dE.lay (w.heap.size);(try simp only[cC.val]));rw[HB.out];have sW:=Fe lu dE)
     | (at_builtin;go_loud (refine wpList_append_own _ rfl _ _ 22 rfl (w.heap.size+1) 5 i0 (.int .u8 0) 1 1 underlying22 jh iz0 iz1 iz2 rfl aI _ _ _ rfl (sW.alloc _) ⟨w1.heap.size,0,none⟩ 1 1 [.int .u8 k] rfl rfl ?c1 ?c2 ?c3 ?c4 ?c5 ?_)))
    case c1 =>
     intro j u hj
     match j,hj with
     | 0,hj=>simp at hj;subst hj;simp[Addr.add]
    case c2=>intro u hu;simp at hu;subst hu;rfl
    case c3=>have:=Bb lo hi k;unfold maxLen;omega
    case c4=>have:=Bb lo hi k;omega
    case c5=>simp;omega
    exact Xs
  ·
   exact Xt
theorem yX (lo hi:Int) (w:World) :
  Calls prog 125 #[.agg #[.int .i64 lo,.int .i64 hi]] w fun e w'=>e=.returned (.string (oP lo hi))/\U w w':=by
 obtain⟨i0,jh,iz0,iz1,iz2⟩:=info_parts Tryz.Xq
 go_enter func125,ntmps125
 go_wp2_with (fail)
 go_loopw [3,4] (fun v i wr=>∃k:Nat,i=.int .i64 k/\k<=128/\wr.ownsRow (w.heap.size+1) 5 1 v (CT lo hi k).length ((CT lo hi k).map fun b:Nat=>Value.int .u8 (b:Int))/\wr.cell? ⟨w.heap.size,0,none⟩=some (.int .i64 lo)/\wr.cell? ⟨w.heap.size,1,none⟩=some (.int .i64 hi)/\U w wr/\w.heap.size<wr.heap.size) (fun _ i _=>128 - (intOf i).toNat)
 case atStart =>
  exact aeR
 case round =>
  obtain⟨k,rfl,hk,lu,rQ,vx,dX,jP⟩:=hrel
  by_cases h:k<128
  ·
   have hd:decide ((k:Int)<128)=true:=aH
   have I8:IntKind.u8.wrap (k:Int)=k:=bJ
   cases hb:sB lo hi k
   ·
    have HB:=I hb
    clear hb
    go_wp2_with ((go_at_call 147;refine (sP lo hi k _ aF).mono ?_;rintro e w1 ⟨rfl,dE⟩;have jZ:=dE.sz;obtain⟨fA,fJ,fI,fP⟩:=dE.lay (w.heap.size);(try simp only[cC.val]));rw[HB.out])
    exact Xr
   ·
    have HB:=I hb
    clear hb
    go_wp2_with (first
     | ((go_at_call 147;refine (sP lo hi k _ aF).mono ?_;rintro e w1 ⟨rfl,dE⟩;have jZ:=dE.sz;obtain⟨fA,fJ,fI,fP⟩:=dE.lay (w.heap.size);(try simp only[cC.val]));rw[HB.out];have sW:=Fe lu dE)
     | (at_builtin;go_loud (refine wpList_append_own _ rfl _ _ 22 rfl (w.heap.size+1) 5 i0 (.int .u8 0) 1 1 underlying22 jh iz0 iz1 iz2 rfl aI _ _ _ rfl (sW.alloc _) ⟨w1.heap.size,0,none⟩ 1 1 [.int .u8 k] rfl rfl ?c1 ?c2 ?c3 ?c4 ?c5 ?_)))
    case c1 =>
     intro j u hj
     match j,hj with
     | 0,hj=>simp at hj;subst hj;simp[Addr.add]
    case c2=>intro u hu;simp at hu;subst hu;rfl
    case c3=>have:=Bb lo hi k;unfold maxLen;omega
    case c4=>have:=Bb lo hi k;omega
    case c5=>simp;omega
    exact Xs
  ·
   exact Xt
def LS (m:Nat):List UInt8:=if m=0 then [] else Lib.decDigits m
theorem DR {m:Nat} (h:m≠0):LS m=LS (m / 10)++[UInt8.ofNat (48+m % 10)]:=by
 unfold LS
 rw[if_neg h]
 by_cases h1:m<10
 ·
  rw[Lib.decDigits_one h1,if_pos aF,show m % 10=m by omega];rfl
 ·
  rw[if_neg aF]
  rw[Lib.decDigits,dif_neg h1]
theorem Bc:∀(k u:Nat),u<10 ^ (k+1)->Lib.nDigits u<=k+1
 | 0,u,h=>by rw[Lib.nDigits_small bR];omega
 | k+1,u,h=>by
  by_cases h1:u<10
  ·
   rw[Lib.nDigits_small h1];omega
  ·
   rw[Lib.nDigits_big h1]
   have:=Bc k (u / 10) (by rw[Nat.div_lt_iff_lt_mul aF,<-Nat.pow_succ];exact h)
   omega
theorem yi (n:Int) (w:World) (hn:dT n) :
  Calls prog 124 #[.int .i64 n] w fun e w'=>e=.returned (.string ⟨(Lib.itoa n).toArray⟩)/\U w w':=by
 unfold dT at hn
 by_cases h0:n=0
 ·
  subst h0
  rw[show (⟨(Lib.itoa 0).toArray⟩:cx)=⟨#[48]⟩ by decide +kernel]
  go_enter func124,ntmps124
  go_wp2
  all_goals
   go_returns
   exact⟨rfl,bl⟩
 ·
  have hlen:(Lib.decDigits n.natAbs).length<=20:=by
   rw[Lib.decDigits_length]
   exact Bc 19 _ aF
  go_enter func124,ntmps124
  go_wp2_with (fail)
  go_loopw [0,4] (fun v o wr=>∃(m:Int) (t:cx),v=.int .i64 m/\o=.string t/\dT m/\Hid (LS m.natAbs++t.data.toList=Lib.decDigits n.natAbs)/\t.size<=20/\U w wr) (fun v _ _=>(intOf v).natAbs)
  case atStart=>exact⟨n,ByteArray.empty,rfl,rfl,hn,by unfold LS;rw[if_neg aF];exact List.append_nil _,by decide,bl⟩
  case round =>
   obtain⟨m,t,rfl,rfl,hm,hE,ht,dX⟩:=hrel
   unfold dT at hm
   by_cases hz:m=0
   ·
    subst hz
    have hE0:t.data.toList=Lib.decDigits n.natAbs:=hE.out
    have hT:t=⟨(Lib.decDigits n.natAbs).toArray⟩:=by rw[<-hE0]
    by_cases hs:n<0
    ·
     have hR:(⟨(Lib.itoa n).toArray⟩:cx)=(⟨#[45]⟩:cx)++t:=by
      rw[hT]
      unfold Lib.itoa
      rw[if_pos hs]
      apply ByteArray.ext
      simp
     exact Xu
    ·
     have hR:(⟨(Lib.itoa n).toArray⟩:cx)=t:=by
      rw[hT]
      unfold Lib.itoa
      rw[if_neg hs,show n.natAbs=n.toNat by omega]
     exact Xu
   ·
    have hq:(m.tdiv 10).natAbs=m.natAbs / 10:=Int.natAbs_tdiv m 10
    have hr:(m.tmod 10).natAbs=m.natAbs % 10:=Int.natAbs_tmod m 10
    have gy:IntKind.i64.wrap (m.tdiv 10)=m.tdiv 10:=bs
    have nn:IntKind.i64.wrap (m.tmod 10)=m.tmod 10:=bs
    have hcv:∀d:Int,d=((m.natAbs % 10:Nat):Int)->(convert 22 9 (.slice (some ⟨wr.heap.size,0,none⟩) 1 1)).run prog (wr.alloc (.cells #[.int .u8 (48+d)] 5))=.ok (.string ⟨#[UInt8.ofNat (48+m.natAbs % 10)]⟩) (wr.alloc (.cells #[.int .u8 (48+d)] 5)):=by
     intro d hd
     refine run_convert_bytes_back (P:=prog) (wr.alloc (.cells #[.int .u8 (48+d)] 5)) _ _ 5 ⟨wr.heap.size,0,none⟩ 1 [UInt8.ofNat (48+m.natAbs % 10)] underlying22 underlying5 underlying9 (fun j hj=>?_)
     obtain rfl:j=0:=by simpa using hj
     rw[show (⟨wr.heap.size,0,none⟩:Addr).add 0=⟨wr.heap.size,0,none⟩from rfl,World.cell?_alloc_mark,hd]
     simp only[List.getElem?_toArray,List.getElem?_cons_zero,ag,Option.some.injEq,Value.int.injEq,true_and]
     rw[UInt8.toNat_ofNat']
     omega
    have hE2:LS (m.tdiv 10).natAbs++((⟨#[UInt8.ofNat (48+m.natAbs % 10)]⟩:cx)++t).data.toList=Lib.decDigits n.natAbs:=by
     rw[hq,<-hE.out,DR (show m.natAbs≠0 by omega)]
     simp
    have ht2:((⟨#[UInt8.ofNat (48+m.natAbs % 10)]⟩:cx)++t).size<=20:=by
     have h1:=congrArg List.length hE.out
     rw[DR (show m.natAbs≠0 by omega),List.length_append,List.length_append,List.length_singleton]at h1
     have h2:t.data.toList.length=t.size:=Array.length_toList
     rw[ByteArray.size_append]
     have h3:(⟨#[UInt8.ofNat (48+m.natAbs % 10)]⟩:cx).size=1:=rfl
     omega
    obtain⟨x,hx⟩:∃x,UInt8.ofNat (48+m.natAbs % 10)=x:=⟨_,rfl⟩
    simp only[hx]at hcv hE2 ht2
    clear hx
    replace hE2:=I hE2
    by_cases hs:m.tmod 10<0
    ·
     have hc:=hcv (-m.tmod 10) aF
     exact Xv
    ·
     have hc:=hcv (m.tmod 10) aF
     exact Xv
end Go.Proofs.YtjngkknbpfgdcaaGreatDoor
namespace Go.Proofs.YtjngkknbpfgdcaaGreatDoor
open Go.RowKit Go.Proofs.Tryz
open Go.Sort in
theorem PN (w:World) (q:Nat) (os:Array Obj):U w (grow (w.drewN q) os) :=
 ⟨rfl,rfl,rfl,by simp[grow],fun i hi=>by
  show ((w.drewN q).heap++os)[i]?=_
  rw[Array.getElem?_append_left (by show i<w.heap.size;omega)]
  rfl⟩
theorem yj (n:Int) (w:World) (hn:dT n) (ht:U7 w) :
  Calls prog 121 #[.int .i64 n] w fun e w'=>e=.returned (.string ⟨(Lib.itoa n).toArray⟩)/\U w w':=by
 have hI:=Tryz.strconv_Itoa n hn.1 hn.2 w ht
 go_enter func121,ntmps121
 go_wp2_with (go_at_call 145;refine hI.mono ?_;rintro e w1 ⟨rfl,k,os,gy⟩;have dE:U w w1:=(by rw[gy];exact PN w k os);clear gy)
 all_goals
  go_returns
  exact⟨rfl,bl⟩
end Go.Proofs.YtjngkknbpfgdcaaGreatDoor
namespace Go.Proofs.YtjngkknbpfgdcaaGreatDoor
open Go.RowKit Go.Proofs.Tryz
def tw (v:cC):cx:=if v.k=1 then⟨(Lib.itoa v.n).toArray⟩ else if v.k=2 then v.t else if v.k=3/\(oP v.lo v.hi).size<=120 then oP v.lo v.hi else ByteArray.empty
def uz (v:cC):Bool:=decide (v.k=1)||decide (v.k=2)||(decide (v.k=3)&&decide ((oP v.lo v.hi).size<=120))
theorem pH (v:cC) (w:World) (hv:v.Ok) :
  Calls prog 91 #[v.val] w fun e w'=>e=.returned (.tuple #[.string (tw v),.bool (uz v)])/\U w w':=by
 have hn:=hv.n
 obtain⟨k,n,i,t,lo,hi⟩:=v
 simp only[cC.val]
 simp only at hn
 by_cases h1:k=1
 ·
  subst h1
  rw[show tw ⟨1,n,i,t,lo,hi⟩=⟨(Lib.itoa n).toArray⟩from rfl,show uz ⟨1,n,i,t,lo,hi⟩=true by simp[uz]]
  exact PO
 by_cases h2:k=2
 ·
  subst h2
  rw[show tw ⟨2,n,i,t,lo,hi⟩=t from rfl,show uz ⟨2,n,i,t,lo,hi⟩=true by simp[uz]]
  exact PO
 by_cases h3:k=3
 ·
  subst h3
  by_cases hz:(oP lo hi).size<=120
  ·
   rw[show tw ⟨3,n,i,t,lo,hi⟩=oP lo hi by simp[tw,hz],show uz ⟨3,n,i,t,lo,hi⟩=true by simp[uz,hz]]
   exact PO
  ·
   rw[show tw ⟨3,n,i,t,lo,hi⟩=ByteArray.empty by simp[tw,hz],show uz ⟨3,n,i,t,lo,hi⟩=false by simp[uz,hz]]
   exact PO
 ·
  rw[show tw ⟨k,n,i,t,lo,hi⟩=ByteArray.empty by simp[tw,h1,h2,h3],show uz ⟨k,n,i,t,lo,hi⟩=false by simp[uz,h1,h2,h3]]
  have e1:(k==1)=false:=aV
  have e2:(k==2)=false:=by simp[h2]
  have e3:(k==3)=false:=cg
  exact PO
theorem pI (v:cC) (w:World) (hv:v.Ok) (ht:U7 w) :
  Calls prog 86 #[v.val] w fun e w'=>e=.returned (.tuple #[.string (tw v),.bool (uz v)])/\U w w':=by
 have hn:=hv.n
 obtain⟨k,n,i,t,lo,hi⟩:=v
 simp only[cC.val]
 simp only at hn
 by_cases h1:k=1
 ·
  subst h1
  rw[show tw ⟨1,n,i,t,lo,hi⟩=⟨(Lib.itoa n).toArray⟩from rfl,show uz ⟨1,n,i,t,lo,hi⟩=true by simp[uz]]
  exact PQ
 by_cases h2:k=2
 ·
  subst h2
  rw[show tw ⟨2,n,i,t,lo,hi⟩=t from rfl,show uz ⟨2,n,i,t,lo,hi⟩=true by simp[uz]]
  exact PQ
 by_cases h3:k=3
 ·
  subst h3
  by_cases hz:(oP lo hi).size<=120
  ·
   rw[show tw ⟨3,n,i,t,lo,hi⟩=oP lo hi by simp[tw,hz],show uz ⟨3,n,i,t,lo,hi⟩=true by simp[uz,hz]]
   exact PQ
  ·
   rw[show tw ⟨3,n,i,t,lo,hi⟩=ByteArray.empty by simp[tw,hz],show uz ⟨3,n,i,t,lo,hi⟩=false by simp[uz,hz]]
   exact PQ
 ·
  rw[show tw ⟨k,n,i,t,lo,hi⟩=ByteArray.empty by simp[tw,h1,h2,h3],show uz ⟨k,n,i,t,lo,hi⟩=false by simp[uz,h1,h2,h3]]
  have e1:(k==1)=false:=aV
  have e2:(k==2)=false:=by simp[h2]
  have e3:(k==3)=false:=cg
  exact PQ
def ldF (s:cx):Nat->Nat->Nat
 | 0,i=>i
 | f+1,i=>if ft s i=32 then ldF s f (i+1) else i
def ld (s:cx) (i:Nat):Nat:=ldF s (s.size - i) i
theorem aaM {s:cx} {i:Nat} (h:i<s.size) (hb:ft s i=32):ld s (i+1)=ld s i:=by
 unfold ld
 rw[show s.size - i=(s.size - (i+1))+1 by omega,ldF,if_pos hb]
theorem aeT {s:cx} {i:Nat} (h:¬(i<s.size/\ft s i=32)):ld s i=i:=by
 unfold ld
 by_cases h1:i<s.size
 ·
  rw[show s.size - i=(s.size - (i+1))+1 by omega,ldF,if_neg (fun e=>h ⟨h1,e⟩)]
 ·
  rw[show s.size - i=0 by omega,ldF]
def trF (s:cx):Nat->Nat->Nat
 | 0,z=>z
 | f+1,z=>if ft s (z - 1)=32 then trF s f (z - 1) else z
def tr (s:cx) (a z:Nat):Nat:=trF s (z - a) z
theorem aaN {s:cx} {a z:Nat} (h:a<z) (hb:ft s (z - 1)=32):tr s a (z - 1)=tr s a z:=by
 unfold tr
 rw[show z - a=(z - 1 - a)+1 by omega,trF,if_pos hb]
theorem aeV {s:cx} {a z:Nat} (h:¬(a<z/\ft s (z - 1)=32)):tr s a z=z:=by
 unfold tr
 by_cases h1:a<z
 ·
  rw[show z - a=(z - 1 - a)+1 by omega,trF,if_neg (fun e=>h ⟨h1,e⟩)]
 ·
  rw[show z - a=0 by omega,trF]
def Xw (s:cx):Nat->Nat->Int->Option Int
 | 0,_,v=>some v
 | f+1,a,v=>if 48<=ft s a/\ft s a<=57 then Xw s f (a+1) (10*v+ft s a - 48) else none
def dv (s:cx) (z a:Nat) (v:Int):Option Int:=Xw s (z - a) a v
theorem aaO {s:cx} {z a:Nat} {v:Int} (h:¬a<z):dv s z a v=some v:=by
 unfold dv
 rw[show z - a=0 by omega,Xw]
theorem aaP {s:cx} {z a:Nat} {v:Int} (h:a<z) (hb:¬(48<=ft s a/\ft s a<=57)):dv s z a v=none:=by
 unfold dv
 rw[show z - a=(z - (a+1))+1 by omega,Xw,if_neg hb]
theorem I9 {s:cx} {z a:Nat} {v:Int} (h:a<z) (hb:48<=ft s a/\ft s a<=57):dv s z (a+1) (10*v+ft s a - 48)=dv s z a v:=by
 unfold dv
 rw[show z - a=(z - (a+1))+1 by omega,Xw,if_pos hb]
def qU (s:cx):Nat:=ld s 0
def tN (s:cx):Nat:=tr s (qU s) s.size
def nY (s:cx):Bool:=decide (qU s<tN s)&&(decide (ft s (qU s)=45)||decide (ft s (qU s)=43))
def tO (s:cx):Nat:=if nY s then qU s+1 else qU s
def qV (s:cx):Bool:=nY s&&decide (ft s (qU s)=45)
def Ff (s:cx):Int × Bool :=
 if tN s<tO s+1\/tO s+12<tN s then (0,false)
 else match dv s (tN s) (tO s) 0 with
  | none=>(0,false)
  | some v=>(if qV s then -v else v,true)
theorem uA {s:cx} (h:tN s<tO s+1):Ff s=(0,false):=by unfold Ff;rw[if_pos (.inl h)]
theorem Bv {s:cx} (h:tO s+12<tN s):Ff s=(0,false):=by unfold Ff;rw[if_pos (.inr h)]
theorem Fg {s:cx} (h:dv s (tN s) (tO s) 0=none):Ff s=(0,false):=by
 unfold Ff
 rw[h]
 split <;> rfl
theorem Bw {s:cx} {v:Int} (h1:¬tN s<tO s+1) (h2:¬tO s+12<tN s) (h:dv s (tN s) (tO s) 0=some v):Ff s=(if qV s then -v else v,true):=by
 unfold Ff
 rw[h,if_neg aF]
theorem LU {s:cx} (h:¬qU s<tN s):tO s=qU s/\qV s=false:=by
 have:nY s=false:=by simp[nY,h]
 simp[tO,qV,this]
theorem Ja {s:cx} (h:qU s<tN s) (hc:ft s (qU s)=45):tO s=qU s+1/\qV s=true:=by
 have:nY s=true:=by simp[nY,h,hc]
 simp[tO,qV,this,hc]
theorem LV {s:cx} (h:qU s<tN s) (hc:ft s (qU s)=43):tO s=qU s+1/\qV s=false:=by
 have:nY s=true:=by simp[nY,h,hc]
 simp[tO,qV,this,hc]
theorem Jb {s:cx} (h1:¬ft s (qU s)=45) (h2:¬ft s (qU s)=43):tO s=qU s/\qV s=false:=by
 have:nY s=false:=by simp[nY,h1,h2]
 simp[tO,qV,this]
def VB (v:Int) (j:Nat):Prop:=0<=v/\v<10 ^ j
theorem VB.zero:VB 0 0:=⟨by decide,by decide⟩
theorem VB.step {v:Int} {j c:Nat} (h:VB v j) (h1:48<=c) (h2:c<=57):VB (10*v+c - 48) (j+1):=by
 obtain⟨a,b⟩:=h
 refine⟨by omega,?_⟩
 rw[Int.pow_succ]
 omega
theorem VB.le {v:Int} {j:Nat} (h:VB v j) (hj:j<=12):0<=v/\v<1000000000000:=by
 refine⟨h.1,Int.lt_of_lt_of_le h.2 ?_⟩
 have:(10:Nat) ^ j<=10 ^ 12:=Nat.pow_le_pow_right aF hj
 have e:((10:Int) ^ j)=((10 ^ j:Nat):Int):=aJ
 rw[e]
 generalize 10 ^ j=p at *
 omega
theorem GF (s:cx) (w:World) (hs:s.size<=maxLen) :
  Calls prog 123 #[.string s] w fun e w'=>e=.returned (.tuple #[.int .i64 (Ff s).1,.bool (Ff s).2])/\U w w':=by
 unfold maxLen at hs
 go_enter func123,ntmps123
 exact Xx
theorem GG (s:cx) (w:World) (hs:s.size<=maxLen) :
  Calls prog 126 #[.string s] w fun e w'=>e=.returned (.tuple #[.int .i64 (Ff s).1,.bool (Ff s).2])/\U w w':=by
 unfold maxLen at hs
 go_enter func126,ntmps126
 exact Xx
theorem cC.Ok.tt {v:cC} (h:v.Ok):(tw v).size<=maxLen:=by
 unfold tw
 split
 ·
  have hn:=h.n
  unfold dT at hn
  unfold maxLen
  have h1:(Lib.decDigits v.n.natAbs).length<=20:=by
   rw[Lib.decDigits_length]
   exact Bc 19 _ aF
  have h2:(Lib.decDigits v.n.toNat).length<=20:=by
   rw[Lib.decDigits_length]
   exact Bc 19 _ aF
  show (Lib.itoa v.n).toArray.size<=_
  unfold Lib.itoa
  split
  ·
   simp;omega
  ·
   simp;omega
 split
 ·
  exact h.t
 split
 ·
  rename_i h3
  unfold maxLen
  omega
 ·
  decide
def Bx (v:cC):Int:=if v.k=1 then v.n else if uz v then (Ff (tw v)).1 else 0
def DS (v:cC):Bool:=if v.k=1 then true else uz v&&(Ff (tw v)).2
theorem np (v:cC) (w:World) (hv:v.Ok) :
  Calls prog 92 #[v.val] w fun e w'=>e=.returned (.tuple #[.int .i64 (Bx v),.bool (DS v)])/\U w w':=by
 have hT:=hv.tt
 obtain⟨k,n,i,t,lo,hi⟩:=v
 simp only[cC.val]
 by_cases h1:k=1
 ·
  subst h1
  go_enter func92,ntmps92
  go_wp2_with (fail)
  all_goals
   go_returns
   exact⟨rfl,bl⟩
 ·
  have e1:(k==1)=false:=aV
  have LW:=I h1
  clear h1
  cases hB:uz ⟨k,n,i,t,lo,hi⟩
  ·
   have HB:=I hB
   clear hB
   have R0:=I (show Bx ⟨k,n,i,t,lo,hi⟩=0 by simp[Bx,LW.out,HB.out])
   have R1:=I (show DS ⟨k,n,i,t,lo,hi⟩=false by simp[DS,LW.out,HB.out])
   exact aeW
  ·
   have HB:=I hB
   clear hB
   have R0:=I (show Bx ⟨k,n,i,t,lo,hi⟩=(Ff (tw ⟨k,n,i,t,lo,hi⟩)).1 by simp[Bx,LW.out,HB.out])
   have R1:=I (show DS ⟨k,n,i,t,lo,hi⟩=(Ff (tw ⟨k,n,i,t,lo,hi⟩)).2 by simp[DS,LW.out,HB.out])
   exact aeW
theorem nq (v:cC) (w:World) (hv:v.Ok) (j6:U7 w) :
  Calls prog 87 #[v.val] w fun e w'=>e=.returned (.tuple #[.int .i64 (Bx v),.bool (DS v)])/\U w w':=by
 have hT:=hv.tt
 obtain⟨k,n,i,t,lo,hi⟩:=v
 simp only[cC.val]
 by_cases h1:k=1
 ·
  subst h1
  go_enter func87,ntmps87
  go_wp2_with (fail)
  all_goals
   go_returns
   exact⟨rfl,bl⟩
 ·
  have e1:(k==1)=false:=aV
  have LW:=I h1
  clear h1
  cases hB:uz ⟨k,n,i,t,lo,hi⟩
  ·
   have HB:=I hB
   clear hB
   have R0:=I (show Bx ⟨k,n,i,t,lo,hi⟩=0 by simp[Bx,LW.out,HB.out])
   have R1:=I (show DS ⟨k,n,i,t,lo,hi⟩=false by simp[DS,LW.out,HB.out])
   exact aeX
  ·
   have HB:=I hB
   clear hB
   have R0:=I (show Bx ⟨k,n,i,t,lo,hi⟩=(Ff (tw ⟨k,n,i,t,lo,hi⟩)).1 by simp[Bx,LW.out,HB.out])
   have R1:=I (show DS ⟨k,n,i,t,lo,hi⟩=(Ff (tw ⟨k,n,i,t,lo,hi⟩)).2 by simp[DS,LW.out,HB.out])
   exact aeX
end Go.Proofs.YtjngkknbpfgdcaaGreatDoor
