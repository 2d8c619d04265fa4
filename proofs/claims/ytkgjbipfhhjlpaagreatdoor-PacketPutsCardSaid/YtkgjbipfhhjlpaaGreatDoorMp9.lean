import Derived.Test.YtkgjbipfhhjlpaaGreatDoorMp7
import Derived.Deep.RegionHeld3
import Derived.Deep.DrawnRows
set_option linter.unusedVariables false
set_option linter.unusedSimpArgs false
set_option maxRecDepth 100000
set_option maxHeartbeats 32000000
namespace Go.Proofs.YtkgjbipfhhjlpaaGreatDoor
section
open Go.RowKit
theorem and_low (m:Nat)(h:m<18446744073709551616):bits .and .u64 (m:Int) 65535=((m%65536:Nat):Int):=by
 have h2:=bits_and_u64_nat m 65535 h (by omega)
 rw[show(65535:Nat)=2^16-1 from rfl,Nat.and_two_pow_sub_one_eq_mod] at h2
 exact h2
theorem rfold_any (n:Nat)(hn:n<18446744073709551616)(w:World):Calls Tryz.prog 197 #[.int .u64 (n:Int)] w (RetAt w (.int .u64 (foldN n:Nat))):=by
 go_enter Tryz.func197,Tryz.ntmps197
 go_wp2_with fail
 go_loopw [0] (fun u0 wr=>∃m:Nat,m<18446744073709551616∧u0=.int .u64 m∧Hid (foldN m=foldN n)∧wr=w) (fun u0 _=>(intOf u0).toNat)
 case atStart=>exact⟨n,hn,rfl,Lib.hid rfl,rfl⟩
 case round=>
  obtain⟨m,hm,rfl,HF,rfl⟩:=hrel
  by_cases hle:m≤65535
  ·have HR:Hid (foldN n=m):=Lib.hid (by rw[←HF.out,foldN_small hle])
   have hle':(m:Int)≤65535:=by omega
   clear HF
   go_wp2_with fail
   go_ret
   exact .mk (by rw[HR.out];rfl) (Below.refl _ _)
  ·have hle':¬((m:Int)≤65535):=by omega
   have hgt':(65535:Int)<m:=by omega
   have HS:Hid (foldN (m/65536+m%65536)=foldN n):=Lib.hid (by rw[foldN_step,HF.out])
   have q1:Int.tdiv (m:Int) 65536=((m/65536:Nat):Int):=by rw[Int.tdiv_eq_ediv_of_nonneg (by omega)];omega
   have q2:Int.tmod (m:Int) 65536=((m%65536:Nat):Int):=by rw[Int.tmod_eq_emod_of_nonneg (by omega)];omega
   have b1:m/65536<281474976710656:=by omega
   have b2:m%65536<65536:=by omega
   have b3:m/65536+m%65536<m:=by omega
   clear HF
   generalize m/65536=a at*
   generalize m%65536=b at*
   go_wp2_with fail
   go_roundw
   case rel=>exact⟨a+b,by omega,by go_num,HS,trivial⟩
   case measure=>simp[intOf];omega
theorem fold_any (n:Nat)(hn:n<18446744073709551616)(w:World):Calls Tryz.prog 198 #[.int .u64 (n:Int)] w (RetAt w (.int .u16 (foldN n:Nat))):=by
 have hfl:=foldN_le n
 go_enter Tryz.func198,Tryz.ntmps198
 go_wp2_with fail
 go_step3
 go_wp2_with fail
 go_step3
 go_wp2_with fail
 go_loopg [0] n (fun g u0 wr=>∃m:Nat,m=g∧m<18446744073709551616∧u0=.int .u64 m∧Hid (foldN m=foldN n)∧wr=w)
 case atStart=>exact⟨n,rfl,hn,rfl,Lib.hid rfl,rfl⟩
 case round=>
  obtain⟨m,rfl,hm,rfl,HF,rfl⟩:=hrel
  by_cases hle:m≤65535
  ·have HR:Hid (foldN n=m):=Lib.hid (by rw[←HF.out,foldN_small hle])
   have hle':(m:Int)≤65535:=by omega
   clear HF
   go_wp2_with fail
   go_ret
   exact .mk (by rw[HR.out];rfl) (Below.refl _ _)
  ·have hle':¬((m:Int)≤65535):=by omega
   have HS:Hid (foldN (m%65536+m/65536)=foldN n):=Lib.hid (by rw[Nat.add_comm,foldN_step,HF.out])
   have q1:=and_low m hm
   have q2:(m:Int)/65536=((m/65536:Nat):Int):=by omega
   have b1:m/65536<281474976710656:=by omega
   have b2:m%65536<65536:=by omega
   have b3:m%65536+m/65536<m:=by omega
   clear HF
   generalize m/65536=a at*
   generalize m%65536=b at*
   go_wp2_with fail
   go_roundg (b+a)
   case measure=>omega
   case rel=>exact⟨b+a,rfl,by omega,by go_num,HS,rfl⟩
structure SumBox (w:World)(p:Nat)(L:List Int):Prop where
 sum:∃n:Nat,w.cell? ⟨p,0,none⟩=some (.int .u64 (n:Int))∧n≤200000∧foldN n=foldN (sumP true L)
 many:w.cell? ⟨p,1,none⟩=some (.int .i64 (L.length:Int))
 free:∀j,w.frozen? ⟨p,j,none⟩=false
 lt:p<w.heap.size
theorem SumBox.put {w:World}{p:Nat}{L L':List Int}(h:SumBox w p L)(y:Later w)(n':Nat)(v k:Int)(hv:v=n')(hk:k=L'.length)(hn:n'≤200000)(hf:foldN n'=foldN (sumP true L')):
 SumBox ((y.world.setCell ⟨p,0,none⟩ (.int .u64 v)).setCell ⟨p,1,none⟩ (.int .i64 k)) p L':=by
 subst hv hk
 obtain⟨n,hc,-⟩:=h.sum
 have c0:=(y.below.cell (p:=⟨p,0,none⟩) h.lt).trans hc
 have c1:=(y.below.cell (p:=⟨p,1,none⟩) h.lt).trans h.many
 have c1':(y.world.setCell ⟨p,0,none⟩ (.int .u64 (n':Int))).cell? ⟨p,1,none⟩=some (.int .i64 (L.length:Int)):=by
  rw[World.cell?_setCell_other _ _ _ _ (by simp)];exact c1
 refine⟨⟨n',?_,hn,hf⟩,World.cell?_setCell_same _ _ _ c1',fun j=>?_,?_⟩
 ·rw[World.cell?_setCell_other _ _ _ _ (by simp)]
  exact World.cell?_setCell_same _ _ _ c0
 ·rw[World.frozen?_setCell,World.frozen?_setCell]
  exact(y.below.frozen (p:=⟨p,j,none⟩) h.lt).trans (h.free j)
 ·have:=Nat.lt_of_lt_of_le h.lt y.below.size
  simpa using this
theorem sumP_snoc (l:List Int)(x:Int):sumP true (l++[x])=sumP true l+(if l.length%2=0 then x.toNat*256 else x.toNat):=by
 rw[sumP_append,nextP_len]
 by_cases h:l.length%2=0
 ·rw[if_pos h,decide_eq_true h];simp[sumP]
 ·rw[if_neg h,decide_eq_false h];simp[sumP]
def AddPost (w:World)(p:Nat)(L:List Int):Ending→World→Prop:=fun e w'=>e=.returned (.tuple #[])∧SumBox w' p L∧Below p w w'
theorem add_some (p:Nat)(L:List Int)(g off:Nat)(m c:Nat)(l:List Int)(w:World)(hs:SumBox w p L)(hr:Reads w (some ⟨g,off,none⟩) m c l)(hgp:g<p)(hm:m≤1000000)(hL:L.length≤1000000):
 Calls Tryz.prog 160 #[.pointer (some ⟨p,0,none⟩),.slice (some ⟨g,off,none⟩) m c] w (AddPost w p (L++l)):=by
 have HS:=Lib.hid hs
 have HR:=Lib.hid hr
 have hlen:=hr.len
 have hlw:=hs.lt
 clear hs hr
 go_enter Tryz.func160,Tryz.ntmps160
 go_wp2_with fail
 go_loopw [11] (fun u11 wr=>∃i:Nat,i≤m∧u11=.int .i64 i∧Hid (SumBox wr p (L++l.take i))∧Hid (Below p w wr)) (fun u11 _=>(m:Int)-intOf u11 |>.toNat)
 case atStart=>exact⟨0,Nat.zero_le _,rfl,Lib.hid (by simpa using HS.out),Lib.hid (Below.refl _ _)⟩
 case round=>
  obtain⟨i,hi,rfl,HX,HW⟩:=hrel
  by_cases hlt:i<m
  ·have HR2:=Lib.hid (HR.out.belowB HW.out (fun a ha=>by cases ha;exact hgp))
   obtain⟨g',off',hop,hgl,hc⟩:=HR2.out.here (by omega)
   cases hop
   have hcx:=hc i hlt
   have hx:=HR.out.getD i
   have hts:l.take (i+1)=l.take i++[l.getD i 0]:=by
    rw[List.take_succ_eq_append_getElem (by omega),List.getD_eq_getElem?_getD,List.getElem?_eq_getElem (by omega)];rfl
   obtain⟨n,hn0,hn1,hn2⟩:=HX.out.sum
   have hmany:=HX.out.many
   have hf0:=HX.out.free 0
   have hf1:=HX.out.free 1
   have hlx:=HX.out.lt
   have hll:(L++l.take i).length=L.length+i:=by rw[List.length_append,List.length_take];omega
   rw[hll] at hmany
   have HSN:Hid (sumP true (L++l.take (i+1))=sumP true (L++l.take i)+(if (L.length+i)%2=0 then (l.getD i 0).toNat*256 else (l.getD i 0).toNat)):=Lib.hid (by
    rw[hts,←List.append_assoc,sumP_snoc,hll])
   have HLN:Hid ((L++l.take (i+1)).length=L.length+i+1):=Lib.hid (by rw[List.length_append,List.length_take];omega)
   have HN2:=Lib.hid hn2
   have hfn:=foldN_le n
   have HFO:=Lib.hid (fun w=>fold_any n (by omega) w)
   have HFS:Hid (∀v,foldN (foldN n+v)=foldN (sumP true (L++l.take i)+v)):=Lib.hid fun v=>by rw[hn2];exact foldN_add _ v
   obtain⟨x,hxe⟩:∃x:Nat,l.getD i 0=x:=⟨(l.getD i 0).toNat,by omega⟩
   rw[hxe] at hcx hx HSN
   simp only[Int.toNat_natCast] at HSN
   obtain⟨par,hpar,hpb⟩:∃par:Nat,Int.tmod ((L.length+i:Nat):Int) 2=par∧par=(L.length+i)%2:=⟨_,by rw[Int.tmod_eq_emod_of_nonneg (by omega)];omega,rfl⟩
   rw[←hpb] at HSN
   have hpp:par=0∨par=1:=by omega
   generalize hk:L.length+i=k at*
   have hkb:k≤2000000:=by omega
   clear hc hts hpb hn2 hll hxe hlen
   generalize foldN n=fn at*
   rcases hpp with rfl|rfl
   ·rw[if_pos rfl] at HSN
    go_wp2_with fail
    refine Calls.later (HFO.out _) ?_
    intro y
    go_wp2_with fail
    exact⟨⟨i+1,by omega,by go_num,Lib.hid (HX.out.put y (fn+x*256) _ _ (by omega) (by rw[HLN.out];omega) (by omega) (by rw[HSN.out,HFS.out])),Lib.hid ((((HW.out.trans (y.below.mono (Nat.le_of_lt hlx))).setCell (by simp only;omega) _)).setCell (by simp only;omega) _)⟩,by simp[intOf];omega⟩
   ·rw[if_neg (by omega)] at HSN
    go_wp2_with fail
    refine Calls.later (HFO.out _) ?_
    intro y
    go_wp2_with fail
    exact⟨⟨i+1,by omega,by go_num,Lib.hid (HX.out.put y (fn+x) _ _ (by omega) (by rw[HLN.out];omega) (by omega) (by rw[HSN.out,HFS.out])),Lib.hid ((((HW.out.trans (y.below.mono (Nat.le_of_lt hlx))).setCell (by simp only;omega) _)).setCell (by simp only;omega) _)⟩,by simp[intOf];omega⟩
  ·obtain rfl:i=m:=by omega
   have HT:Hid (SumBox wr p (L++l)):=Lib.hid (by have:=HX.out;rwa [List.take_of_length_le (by omega)] at this)
   clear HX
   go_wp2_with fail
   go_end0
   exact⟨rfl,HT.out,HW.out⟩
theorem sumvalue_any (p:Nat)(L:List Int)(w:World)(hs:SumBox w p L):Calls Tryz.prog 161 #[.pointer (some ⟨p,0,none⟩)] w (RetAt w (.int .u16 (sumOf L:Nat))):=by
 obtain⟨n,h0,hn,hf⟩:=hs.sum
 have HF:=Lib.hid hf
 have hfl:=foldN_le n
 have HFO:=Lib.hid (fun w=>fold_any n (by omega) w)
 have HV:Hid ((sumOf L:Nat)=65535-foldN n):=Lib.hid (by unfold sumOf;rw[HF.out])
 clear hs hf
 generalize foldN n=fn at*
 go_enter Tryz.func161,Tryz.ntmps161
 go_wp2_with fail
 refine Calls.later (HFO.out _) ?_
 intro x
 go_wp2_with fail
 go_ret
 refine .mk ?_ x.below
 rw[HV.out]
 show Value.int .u16 (65535-(fn:Int))=.int .u16 (((65535-fn:Nat)):Int)
 congr 1
 omega
theorem Reads.addr {w:World}{oa:Option Addr}{n cap:Nat}{l:List Int}(h:Reads w oa n cap l):n=0∨∃g off,oa=some ⟨g,off,none⟩∧g<w.heap.size:=by
 rcases h.at' with h|⟨g,off,e,hl,-⟩
 ·exact .inl h
 ·exact .inr ⟨g,off,e,hl⟩
theorem add_none (p:Nat)(L:List Int)(A:Option Addr)(c:Nat)(w:World)(hs:SumBox w p L):Calls Tryz.prog 160 #[.pointer (some ⟨p,0,none⟩),.slice A 0 c] w (AddPost w p L):=by
 have HS:=Lib.hid hs
 clear hs
 go_enter Tryz.func160,Tryz.ntmps160
 go_wp2_with fail
 go_loopw [11] (fun u11 wr=>u11=.int .i64 0∧wr=w) (fun _ _=>0)
 case atStart=>exact⟨rfl,rfl⟩
 case round=>
  obtain⟨rfl,rfl⟩:=hrel
  go_wp2_with fail
  go_end0
  exact⟨rfl,HS.out,Below.refl _ _⟩
theorem add_any (p:Nat)(L:List Int)(A:Option Addr)(m c:Nat)(l:List Int)(w:World)(hs:SumBox w p L)(hr:Reads w A m c l)(hA:∀a,A=some a→a.block<p)(hm:m≤1000000)(hL:L.length≤1000000):
 Calls Tryz.prog 160 #[.pointer (some ⟨p,0,none⟩),.slice A m c] w (AddPost w p (L++l)):=by
 rcases hr.addr with rfl|⟨g,off,rfl,-⟩
 ·have:l=[]:=List.length_eq_zero_iff.1 hr.len
  subst this
  rw[List.append_nil]
  exact add_none p L A c w hs
 ·exact add_some p L g off m c l w hs hr (hA _ rfl) hm hL
structure RowsUnder (w:World)(p R k:Nat)(rs:List (List Int)):Prop where
 len:rs.length=k
 lt:R<p
 row:∀j (h:j<rs.length),∃A m cap,w.cell? ⟨R,j,none⟩=some (.slice A m cap)∧Reads w A m cap rs[j]∧m≤100000∧∀a,A=some a→a.block<p
theorem RowsUnder.below {w w':World}{p R k:Nat}{rs:List (List Int)}(h:RowsUnder w p R k rs)(hb:Below p w w'):RowsUnder w' p R k rs:=
 ⟨h.len,h.lt,fun j hj=>by
   obtain⟨A,m,cap,h1,h2,h3,h4⟩:=h.row j hj
   exact⟨A,m,cap,(hb.cell (p:=⟨R,j,none⟩) h.lt).trans h1,h2.belowB hb h4,h3,h4⟩⟩
theorem each_any (p R k c:Nat)(rs:List (List Int))(w:World)(hr:RowsUnder w p R k rs)(hs:SumBox w p [])(hk:k≤8):
 Calls Tryz.prog 159 #[.slice (some ⟨R,0,none⟩) k c,.func (.func 160) #[.pointer (some ⟨p,0,none⟩)] #[]] w (AddPost w p rs.flatten):=by
 have HR:=Lib.hid hr
 have HS:=Lib.hid hs
 have hlen:=hr.len
 have HFL:Hid (∀i,i≤rs.length→(rs.take i).flatten.length≤100000*i):=Lib.hid fun i=>by
  induction i with
  |zero=>intro _;simp
  |succ i ih=>
   intro hi
   have h1:=ih (by omega)
   obtain⟨A,m,cap,-,h2,h3,-⟩:=hr.row i (by omega)
   have:=h2.len
   rw[List.take_succ_eq_append_getElem (by omega),List.flatten_append,List.length_append]
   simp only[List.flatten_cons,List.flatten_nil,List.append_nil]
   omega
 clear hr hs
 go_enter Tryz.func159,Tryz.ntmps159
 go_wp2_with fail
 go_loopw [8] (fun u8 wr=>∃i:Nat,i≤k∧u8=.int .i64 i∧Hid (SumBox wr p (rs.take i).flatten)∧Hid (Below p w wr)) (fun u8 _=>(k:Int)-intOf u8 |>.toNat)
 case atStart=>exact⟨0,Nat.zero_le _,rfl,Lib.hid (by simpa using HS.out),Lib.hid (Below.refl _ _)⟩
 case round=>
  obtain⟨i,hi,rfl,HX,HW⟩:=hrel
  by_cases hlt:i<k
  ·obtain⟨A,m,cap,hc,hrd,hm,hA⟩:=(HR.out.below HW.out).row i (by omega)
   have HRD:=Lib.hid hrd
   have HAB:=Lib.hid hA
   have hfl:=HFL.out i (by omega)
   have HT:Hid ((rs.take (i+1)).flatten=(rs.take i).flatten++rs[i]):=Lib.hid (by
    rw[List.take_succ_eq_append_getElem (by omega),List.flatten_append];simp)
   clear hrd hA
   go_wp2_with fail
   refine Calls.mono (add_any p _ A m cap _ _ HX.out HRD.out HAB.out (by omega) (by omega)) ?_
   rintro e w2 ⟨rfl,hs2,hb2⟩
   have HX2:Hid (SumBox w2 p (rs.take (i+1)).flatten):=Lib.hid (by rw[HT.out];exact hs2)
   have HW2:=Lib.hid (HW.out.trans hb2)
   clear hs2 hb2 HX HW HT hc
   go_wp2_with fail
   go_roundw
   case rel=>exact⟨i+1,by omega,by go_num,HX2,HW2⟩
   case measure=>simp[intOf];omega
  ·obtain rfl:i=k:=by omega
   have HT:Hid (SumBox wr p rs.flatten):=Lib.hid (by have:=HX.out;rwa [List.take_of_length_le (by omega)] at this)
   clear HX
   go_wp2_with fail
   go_end0
   exact⟨rfl,HT.out,HW.out⟩
theorem sumof_any (R k c:Nat)(rs:List (List Int))(w:World)(hr:RowsUnder w w.heap.size R k rs)(hk:k≤8):Calls Tryz.prog 113 #[.slice (some ⟨R,0,none⟩) k c] w (RetAt w (.int .u16 (sumOf rs.flatten:Nat))):=by
 have HR:Hid (RowsUnder (w.alloc (.cells #[.int .u64 0,.int .i64 0] 255)) w.heap.size R k rs):=Lib.hid (hr.below (Below.all (Below.refl _ _) _))
 have HS:Hid (SumBox (w.alloc (.cells #[.int .u64 0,.int .i64 0] 255)) w.heap.size []):=Lib.hid ⟨⟨0,by go_cell,by omega,rfl⟩,by go_cell,fun j=>by go_cell,by simp⟩
 clear hr
 go_enter Tryz.func113,Tryz.ntmps113
 go_wp2_with fail
 refine Calls.mono (each_any w.heap.size R k c rs _ HR.out HS.out hk) ?_
 rintro e w2 ⟨rfl,hs2,hb2⟩
 have HB:=Lib.hid ((Below.all (Below.refl w.heap.size w) (.cells #[.int .u64 0,.int .i64 0] 255)).trans hb2)
 have HS2:=Lib.hid hs2
 clear hs2 hb2
 go_wp2_with fail
 refine Calls.later (sumvalue_any _ _ _ HS2.out) ?_
 intro x
 go_wp2_with fail
 go_ret
 exact .mk rfl (HB.out.trans (x.below.mono HB.out.size))
theorem whole_any (R k c:Nat)(rs:List (List Int))(w:World)(hr:RowsUnder w w.heap.size R k rs)(hk:k≤8):Calls Tryz.prog 106 #[.slice (some ⟨R,0,none⟩) k c] w (RetAt w (.bool (wholeB rs.flatten))):=by
 have HO:=Lib.hid (sumof_any R k c rs w hr hk)
 have HV:=Lib.hid (whole_of rs.flatten)
 have hle:=sumOf_le rs.flatten
 clear hr
 generalize sumOf rs.flatten=s at*
 generalize wholeB rs.flatten=b at*
 go_enter Tryz.func106,Tryz.ntmps106
 go_wp2_with fail
 refine Calls.later HO.out ?_
 intro x
 by_cases h0:s=0
 ·subst h0
  have HB:Hid (b=true):=Lib.hid (by rw[←HV.out];rfl)
  clear HV HO
  go_wp2_with fail
  go_ret
  exact .mk (by rw[HB.out];rfl) x.below
 ·have h0':((s:Int)==0)=false:=by simp;omega
  have HB:Hid (b=((s:Int)==65535)):=Lib.hid (by
   rw[←HV.out]
   by_cases h1:s=65535
   ·subst h1;rfl
   ·rw[beq_false_of_ne h0,beq_false_of_ne h1,beq_false_of_ne (by omega)];rfl)
  clear HV HO
  go_wp2_with fail
  go_ret
  exact .mk (by rw[HB.out];rfl) x.below
theorem info_u64':(Tryz.prog.info? 124).map (fun i=>(i.zero,i.size,i.bytes))=some (some (.int .u64 0),1,8):=by kernel_rfl
def u64V (n:Nat):Value:=.int .u64 (n:Int)
theorem words_step (l:List Int)(i:Nat)(h:i<l.length):wordsL (l.drop i)=((l.getD i 0).toNat*256+(l.getD (i+1) 0).toNat)::wordsL (l.drop (i+2)):=by
 have e1:l.drop i=l.getD i 0::l.drop (i+1):=by rw[List.drop_eq_getElem_cons h,List.getD_eq_getElem?_getD,List.getElem?_eq_getElem h];rfl
 by_cases h2:i+1<l.length
 ·have e2:l.drop (i+1)=l.getD (i+1) 0::l.drop (i+2):=by rw[List.drop_eq_getElem_cons h2,List.getD_eq_getElem?_getD,List.getElem?_eq_getElem h2];rfl
  rw[e1,e2,wordsL]
 ·have e2:l.drop (i+1)=[]:=List.drop_eq_nil_of_le (by omega)
  have e3:l.drop (i+2)=[]:=List.drop_eq_nil_of_le (by omega)
  have e4:l.getD (i+1) 0=0:=by rw[List.getD_eq_getElem?_getD,List.getElem?_eq_none (by omega)];rfl
  rw[e1,e2,e3,e4,wordsL,wordsL];simp
def NewWords (w:World)(L:List Nat):Ending→World→Prop:=fun e w'=>∃oa cap,e=.returned (.slice oa L.length cap)∧Owns w' w.heap.size 1 oa L.length cap (L.map u64V)∧Below w.heap.size w w'
theorem words_any (A:Option Addr)(m c:Nat)(l:List Int)(w:World)(hr:Reads w A m c l)(hm:m≤1000000):Calls Tryz.prog 196 #[.slice A m c] w (NewWords w (wordsL l)):=by
 rcases hr.addr with rfl|⟨g,off,rfl,hgl⟩
 ·have:l=[]:=List.length_eq_zero_iff.1 hr.len
  subst this
  clear hr
  go_enter Tryz.func196,Tryz.ntmps196
  go_wp2_with fail
  go_loopw [3,4] (fun u3 u4 wr=>u3=.slice none 0 0∧u4=.int .i64 0∧wr=w) (fun _ _ _=>0)
  case atStart=>exact⟨rfl,rfl,rfl⟩
  case round=>
   obtain⟨rfl,rfl,rfl⟩:=hrel
   go_wp2_with fail
   go_ret
   exact⟨none,0,rfl,Owns.nil _ _ _,Below.refl _ _⟩
 ·have HR:=Lib.hid hr
  have hlen:=hr.len
  clear hr
  go_enter Tryz.func196,Tryz.ntmps196
  go_wp2_with fail
  go_loopw [3,4] (fun u3 u4 wr=>∃(i:Nat) (oa:Option Addr) (cap:Nat) (W:List Nat),i≤m+1∧W.length≤i∧u4=.int .i64 i∧u3=.slice oa W.length cap∧Hid (W++wordsL (l.drop i)=wordsL l)∧Hid (Owns wr w.heap.size 1 oa W.length cap (W.map u64V))∧Hid (Below w.heap.size w wr)) (fun _ u4 _=>(m:Int)+2-intOf u4 |>.toNat)
  case atStart=>exact⟨0,none,0,[],by omega,by simp,rfl,rfl,Lib.hid rfl,Lib.hid (Owns.nil _ _ _),Lib.hid (Below.refl _ _)⟩
  case round=>
   obtain⟨i,oa,cap,W,hi,hWi,rfl,rfl,HWL,HO,HB⟩:=hrel
   by_cases hlt:i<m
   ·have HR2:=Lib.hid (HR.out.belowB HB.out (fun a ha=>by cases ha;exact hgl))
    obtain⟨g',off',hop,hgl',hc⟩:=HR2.out.here (by omega)
    cases hop
    have hcx:=hc i hlt
    have hx:=HR.out.getD i
    have hy:=HR.out.getD (i+1)
    have HST:Hid (W++[(l.getD i 0).toNat*256+(l.getD (i+1) 0).toNat]++wordsL (l.drop (i+2))=wordsL l):=Lib.hid (by
     rw[←HWL.out,words_step l i (by omega),List.append_assoc];rfl)
    have hlt':(i:Int)<m:=by omega
    by_cases hl2:i+1<m
    ·have hcy:=hc (i+1) hl2
     have hl2':(i:Int)+1<m:=by omega
     obtain⟨x,hxe⟩:∃x:Nat,l.getD i 0=x:=⟨(l.getD i 0).toNat,by omega⟩
     obtain⟨y,hye⟩:∃y:Nat,l.getD (i+1) 0=y:=⟨(l.getD (i+1) 0).toNat,by omega⟩
     rw[hxe] at hcx hx HST
     rw[hye] at hy HST hcy
     simp only[Int.toNat_natCast] at HST
     have hb:=HB.out
     clear hc hxe hye HWL
     go_wp2_with (at_builtin;refine Stopped.of ?_)
     refine Stopped.mk ?_
     refine wpList_append_owns _ rfl _ _ 252 rfl 124 (.int .u64 0) 1 8 w.heap.size Tryz.underlying252 info_u64' rfl (by decide) oa W.length cap _ rfl (HO.out.alloc _) ⟨wr.heap.size,0,none⟩ 1 1 [.int .u64 ((x:Int)*256+y)] rfl rfl ?_ ?_ (by decide) ?_ ?_ ?_ ?_
     ·exact news_new _ _ _
     ·simp[Value.oneCell']
     ·unfold maxLen;omega
     ·omega
     ·simp only[World.size_alloc];have:=hb.size;omega
     intro oa' cap' w' ho' hg hd
     have hb2:Below w.heap.size w w':=Below.appended (hb.alloc hb.size _) (HO.out.alloc _) (Nat.le_refl _) hg (by simp only[World.size_alloc];have:=hb.size;omega)
     clear hg hd hb
     go_wp2_with fail
     go_roundw
     case rel=>
      refine⟨i+2,oa',cap',W++[x*256+y],by omega,by rw[List.length_append];simp;omega,by go_num,by rw[List.length_append];rfl,HST,Lib.hid ?_,Lib.hid hb2⟩
      rw[List.map_append,List.length_append]
      exact ho'
     case measure=>simp[intOf];omega
    ·have hl2':¬((i:Int)+1<m):=by omega
     have hy0:l.getD (i+1) 0=0:=by rw[List.getD_eq_getElem?_getD,List.getElem?_eq_none (by omega)];rfl
     obtain⟨x,hxe⟩:∃x:Nat,l.getD i 0=x:=⟨(l.getD i 0).toNat,by omega⟩
     obtain⟨y,hye⟩:∃y:Nat,l.getD (i+1) 0=y:=⟨(l.getD (i+1) 0).toNat,by omega⟩
     rw[hxe] at hcx hx HST
     rw[hye] at hy HST hy0
     obtain rfl:y=0:=by omega
     simp only[Int.toNat_natCast] at HST
     have hb:=HB.out
     clear hc hxe hye HWL
     go_wp2_with (at_builtin;refine Stopped.of ?_)
     refine Stopped.mk ?_
     refine wpList_append_owns _ rfl _ _ 252 rfl 124 (.int .u64 0) 1 8 w.heap.size Tryz.underlying252 info_u64' rfl (by decide) oa W.length cap _ rfl (HO.out.alloc _) ⟨wr.heap.size,0,none⟩ 1 1 [.int .u64 ((x:Int)*256)] rfl rfl ?_ ?_ (by decide) ?_ ?_ ?_ ?_
     ·exact news_new _ _ _
     ·simp[Value.oneCell']
     ·unfold maxLen;omega
     ·omega
     ·simp only[World.size_alloc];have:=hb.size;omega
     intro oa' cap' w' ho' hg hd
     have hb2:Below w.heap.size w w':=Below.appended (hb.alloc hb.size _) (HO.out.alloc _) (Nat.le_refl _) hg (by simp only[World.size_alloc];have:=hb.size;omega)
     clear hg hd hb
     go_wp2_with fail
     go_roundw
     case rel=>
      refine⟨i+2,oa',cap',W++[x*256+0],by omega,by rw[List.length_append];simp;omega,by go_num,by rw[List.length_append];rfl,HST,Lib.hid ?_,Lib.hid hb2⟩
      rw[List.map_append,List.length_append]
      exact ho'
     case measure=>simp[intOf];omega
   ·have HT:Hid (W=wordsL l):=Lib.hid (by
     have:=HWL.out
     rwa [List.drop_eq_nil_of_le (by omega),show wordsL []=[] from rfl,List.append_nil] at this)
    have hlt':¬((i:Int)<m):=by omega
    clear HWL
    go_wp2_with fail
    go_ret
    rw[←HT.out]
    exact⟨oa,cap,rfl,HO.out,HB.out⟩
theorem wordsL_len:∀l:List Int,(wordsL l).length≤l.length
 |[]=>Nat.le_refl _
 |[x]=>by simp[wordsL]
 |x::y::l=>by have:=wordsL_len l;rw[wordsL];simp only[List.length_cons];omega
theorem wordsL_bd:∀l:List Int,(∀x∈l,0≤x∧x<256)→∀n∈wordsL l,n<65536
 |[],_=>by simp[wordsL]
 |[x],h=>by have:=h x (by simp);simp[wordsL];omega
 |x::y::l,h=>by
  have h1:=h x (by simp)
  have h2:=h y (by simp)
  have h3:=wordsL_bd l fun z hz=>h z (by simp[hz])
  intro n hn
  rw[wordsL] at hn
  rcases List.mem_cons.1 hn with rfl|hn
  ·omega
  ·exact h3 n hn
theorem sum_take_succ (L:List Nat)(i:Nat)(h:i<L.length):(L.take (i+1)).sum=(L.take i).sum+L[i]:=by
 rw[List.take_succ_eq_append_getElem h,List.sum_append];simp
theorem sum_take_le (L:List Nat)(h:∀n∈L,n<65536)(i:Nat):(L.take i).sum≤i*65536:=by
 induction i with
 |zero=>simp
 |succ i ih=>
  by_cases hi:i<L.length
  ·rw[sum_take_succ L i hi]
   have:=h L[i] (List.getElem_mem hi)
   omega
  ·have e:(L.take (i+1)).sum=(L.take i).sum:=by rw[List.take_of_length_le (show L.length≤i by omega),List.take_of_length_le (show L.length≤i+1 by omega)]
   omega
theorem rsum_any (A:Option Addr)(m c:Nat)(l:List Int)(w:World)(hr:Reads w A m c l)(hm:m≤1000000):Calls Tryz.prog 156 #[.slice A m c] w (RetAt w (.int .u64 (foldN (sumP true l):Nat))):=by
 have HWD:=Lib.hid (words_any A m c l w hr hm)
 have HLL:Hid ((wordsL l).length≤1000000):=Lib.hid (by have:=wordsL_len l;have:=hr.len;omega)
 have HBD:=Lib.hid (sum_take_le (wordsL l) (wordsL_bd l hr.byte))
 have HSS:Hid ((wordsL l).sum=sumP true l):=Lib.hid (wordsL_sum l)
 clear hr
 generalize wordsL l=L at*
 generalize sumP true l=S at*
 go_enter Tryz.func156,Tryz.ntmps156
 go_wp2_with fail
 refine Calls.mono HWD.out ?_
 rintro e w1 ⟨oa,cap,rfl,ho,hb⟩
 have HO:=Lib.hid ho
 have HB:=Lib.hid hb
 clear ho hb
 have hll:=HLL.out
 go_wp2_with fail
 go_loopw [3,5] (fun u3 u5 wr=>∃i:Nat,i≤L.length∧u5=.int .i64 i∧u3=.int .u64 ((L.take i).sum:Nat)∧wr=w1) (fun _ u5 _=>(L.length:Int)-intOf u5 |>.toNat)
 case atStart=>exact⟨0,Nat.zero_le _,rfl,rfl,rfl⟩
 case round=>
  obtain⟨i,hi,rfl,rfl,rfl⟩:=hrel
  by_cases hlt:i<L.length
  ·obtain⟨g,off,hop,-,hgl,hc,-⟩:=HO.out.here (by omega)
   subst hop
   have hcx:=hc i (u64V L[i]) (by simp[hlt])
   unfold u64V at hcx
   have HST:Hid ((L.take (i+1)).sum=(L.take i).sum+L[i]):=Lib.hid (sum_take_succ L i hlt)
   have hb1:=HBD.out (i+1)
   rw[HST.out] at hb1
   have hlt':(i:Int)<L.length:=by omega
   clear hc
   generalize (L.take i).sum=s at*
   generalize L[i]=x at*
   go_wp2_with fail
   go_roundw
   case rel=>exact⟨i+1,by omega,by go_num,by rw[HST.out];first|rfl|(congr 1;omega),by trivial⟩
   case measure=>simp[intOf];omega
  ·have HT:Hid ((L.take i).sum=S):=Lib.hid (by rw[List.take_of_length_le (by omega)];exact HSS.out)
   have hlt':¬((i:Int)<L.length):=by omega
   have hb1:=HBD.out i
   rw[HT.out] at hb1⊢
   go_wp2_with fail
   refine Calls.later (rfold_any S (by omega) _) ?_
   intro x
   go_wp2_with fail
   go_ret
   exact .mk rfl (HB.out.trans (x.below.mono HB.out.size))
theorem rof_any (A:Option Addr)(m c:Nat)(l:List Int)(w:World)(hr:Reads w A m c l)(hm:m≤1000000):Calls Tryz.prog 100 #[.slice A m c] w (RetAt w (.int .u16 (sumOf l:Nat))):=by
 have HS:=Lib.hid (rsum_any A m c l w hr hm)
 have HV:Hid ((sumOf l:Nat)=65535-foldN (sumP true l)):=Lib.hid rfl
 have hf:=foldN_le (sumP true l)
 clear hr
 generalize foldN (sumP true l)=f at*
 go_enter Tryz.func100,Tryz.ntmps100
 go_wp2_with fail
 refine Calls.later HS.out ?_
 intro x
 go_wp2_with fail
 go_ret
 refine .mk ?_ x.below
 rw[HV.out]
 show Value.int .u16 (65535-(f:Int))=.int .u16 (((65535-f:Nat)):Int)
 congr 1
 omega
end
end Go.Proofs.YtkgjbipfhhjlpaaGreatDoor
namespace Go.Proofs.YtkgjbipfhhjlpaaGreatDoor.Bits
open Go.RowKit
theorem elemBytes:Tryz.prog.underlying 22=some (.slice (Tryz.prog.elem 22)):=by kernel_rfl
theorem sizeBytes:(Tryz.prog.info? (Tryz.prog.elem 22)).map (·.size)=some 1:=by kernel_rfl
theorem bits_or_byte (v x:Int)(hv:0≤v)(hv':v<72057594037927936)(hx:0≤x)(hx':x<256):bits .or .u64 (v*256) x=v*256+x:=by
 obtain⟨a,rfl⟩:∃a:Nat,v=a:=⟨v.toNat,by omega⟩
 obtain⟨b,rfl⟩:∃b:Nat,x=b:=⟨x.toNat,by omega⟩
 have e:((BitVec.ofInt 64 ((a:Int)*256)) ||| (BitVec.ofInt 64 (b:Int))).toNat=a*256+b:=by
  rw[BitVec.toNat_or,show((a:Int)*256)=((a*256:Nat):Int) by omega,BitVec.ofInt_natCast,BitVec.ofInt_natCast,BitVec.toNat_ofNat,BitVec.toNat_ofNat,Nat.mod_eq_of_lt (by omega),Nat.mod_eq_of_lt (by omega)]
  have:=Nat.two_pow_add_eq_or_of_lt (i:=8) (b:=b) (by omega) a
  rw[Nat.mul_comm a 256]
  exact this.symm
 show IntKind.u64.wrap (((BitVec.ofInt 64 ((a:Int)*256)) ||| (BitVec.ofInt 64 (b:Int))).toNat:Int)=_
 rw[e,IntWalk.u64_in _ (by omega)]
 omega
theorem value_any (oa:Option Addr)(n cap:Nat)(l:List Int)(w:World)(hr:Reads w oa n cap l)(hn:n≤8):Calls Tryz.prog 143 #[.slice oa n cap] w (RetAt w (.int .u64 (numOf l))):=by
 have HR:=Lib.hid hr
 clear hr
 go_enter Tryz.func143,Tryz.ntmps143
 go_wp2_with fail
 go_loopw [2,7] (fun u2 u7 wr=>∃k:Nat,k≤n∧u7=.int .i64 k∧u2=.int .u64 (numOf (l.take k))∧wr=w) (fun _ u7 _=>(n:Int)-intOf u7 |>.toNat)
 case atStart=>exact⟨0,Nat.zero_le _,rfl,rfl,rfl⟩
 case round=>
  obtain⟨k,hk,rfl,rfl,rfl⟩:=hrel
  by_cases hlt:k<n
  ·obtain⟨g,off,rfl,hg,hc⟩:=HR.out.here (by omega)
   have hts:=take_snoc' l k (by rw[HR.out.len];exact hlt)
   have hck:=hc k hlt
   have hbk:=HR.out.getD k
   clear hc
   obtain⟨x,hx⟩:∃x,l.getD k 0=x:=⟨_,rfl⟩
   rw[hx] at hts hck hbk
   clear hx
   have hb:=numOf_bd (l.take k) (fun v hv=>HR.out.byte v (List.mem_of_mem_take hv))
   have hl:(l.take k).length=k:=by rw[List.length_take,HR.out.len];omega
   rw[hl] at hb
   have hp:=pow_le7 k (by omega)
   have hb0:=hb.1
   have hb1:numOf (l.take k)<72057594037927936:=by omega
   have hx0:=hbk.1
   have hx1:=hbk.2
   have ho:=bits_or_byte _ x hb0 hb1 hx0 hx1
   have HO:=Lib.hid ho
   have HT:=Lib.hid hts
   clear hb hp hl hbk ho hts
   go_wp2_with fail
   go_roundw
   case rel=>exact⟨k+1,by omega,by go_num,by rw[HT.out,numOf_snoc,←HO.out],trivial⟩
   case measure=>simp[intOf];omega
  ·obtain rfl:k=n:=by omega
   go_wp2_with fail
   go_ret
   refine .mk (val_int ?_) (Below.refl _ _)
   rw[List.take_of_length_le (by rw[HR.out.len];exact Nat.le_refl _)]
theorem eqNil (oa:Option Addr)(n c:Nat)(w:World):(binOp .eql 22 (.slice oa n c) (.slice none 0 0)).run Tryz.prog w=.ok (.bool oa.isNone) w:=Lib.run_eql_slice_nil w 22 5 oa n c 0 0 Tryz.underlying22
theorem clone_any (oa:Option Addr)(n cap:Nat)(l:List Int)(w:World)(hr:Reads w oa n cap l)(hn:n≤1000000):Calls Tryz.prog 105 #[.slice oa n cap] w (NewBytes w l):=by
 have HR:=Lib.hid hr
 clear hr
 rcases oa with _|a0
 ·have hq:=eqNil none n cap
  simp only[Option.isNone] at hq
  go_enter Tryz.func105,Tryz.ntmps105
  go_wp2_with fail
  go_ret
  have hl:l=[]:=by
   rcases HR.out.at' with h0|⟨g,off,e,-⟩
   ·exact List.eq_nil_of_length_eq_zero (by rw[HR.out.len,h0])
   ·cases e
  subst hl
  exact⟨none,0,rfl,Owns.nil _ _ _,Below.refl _ _⟩
 ·have hq:=eqNil (some a0) n cap
  simp only[Option.isNone] at hq
  go_enter Tryz.func105,Tryz.ntmps105
  go_wp2_with (at_builtin;refine Stopped.of ?_)
  refine Stopped.mk ?_
  obtain rfl:=HR.out.len
  refine wpList_append_reads _ rfl _ _ 22 rfl 5 w.heap.size Tryz.underlying22 infoU8 _ 0 0 [] rfl (Owns.made #[] 0 0 5 [] (Nat.le_refl _) (Nat.le_refl _) (Nat.le_refl _) (Nat.zero_le _) rfl) (some a0) l.length cap l rfl (HR.out.alloc _) (by omega) (by simp) ?_
  intro oa' cap' w' ho hg hd
  simp only[Nat.zero_add,List.nil_append] at ho⊢
  have hb:Below w.heap.size w w':=Below.grown ((Below.refl _ _).alloc (Nat.le_refl _) _) hg (by simp) (fun k hk=>by simp at hk;omega)
  clear hg hd
  go_wp2_with fail
  go_ret
  exact .mk ho rfl hb
structure Wr (w:World)(p:Nat)(l:List Int):Prop where
 row:∃oa cap,w.cell? ⟨p,0,none⟩=some (.slice oa l.length cap)∧Owns w (p+1) 1 oa l.length cap (l.map (.int .u8))
 free:w.frozen? ⟨p,0,none⟩=false
 lt:p<w.heap.size
 byte:∀v∈l,0≤v∧v<256
theorem Wr.below {w w':World}{p:Nat}{l:List Int}(h:Wr w p l)(hb:Below w.heap.size w w'):Wr w' p l:=by
 obtain⟨oa,cap,hc,ho⟩:=h.row
 exact⟨⟨oa,cap,(hb.cell (p:=⟨p,0,none⟩) h.lt).trans hc,ho.below hb⟩,(hb.frozen (p:=⟨p,0,none⟩) h.lt).trans h.free,Nat.lt_of_lt_of_le h.lt hb.size,h.byte⟩
theorem Wr.later {w:World}{p:Nat}{l:List Int}(h:Wr w p l)(x:Later w):Wr x.world p l:=h.below x.below
def WrPost (w:World)(p:Nat)(l:List Int):Ending→World→Prop:=fun e w'=>e=.returned (.int .i64 0)∧Wr w' p l∧Below p w w'
theorem raw_any (p:Nat)(l:List Int)(A:Option Addr)(m c:Nat)(l2:List Int)(w:World)(hw:Wr w p l)(hr:Reads w A m c l2)(hm:l.length+l2.length≤1000000):
 Calls Tryz.prog 63 #[.pointer (some ⟨p,0,none⟩),.slice A m c] w (WrPost w p (l++l2)):=by
 obtain rfl:=hr.len
 obtain⟨oa,cap,hc,ho⟩:=hw.row
 have hf:=hw.free
 have hlt:=hw.lt
 go_enter Tryz.func63,Tryz.ntmps63
 go_wp2_with (at_builtin;refine Stopped.of ?_)
 refine Stopped.mk ?_
 refine wpList_append_reads _ rfl _ _ 22 rfl 5 (p+1) Tryz.underlying22 infoU8 oa l.length cap _ rfl ho A l2.length c l2 rfl hr (by omega) hlt ?_
 intro oa' cap' w' ho' hg hd
 rw[←List.map_append] at ho'
 have hb:Below (p+1) w w':=Below.appended (Below.refl _ _) ho (Nat.le_refl _) hg hlt
 have hc':=(hb.cell (p:=⟨p,0,none⟩) (Nat.lt_succ_self p)).trans hc
 have hf':=(hb.frozen (p:=⟨p,0,none⟩) (Nat.lt_succ_self p)).trans hf
 have hlt':p<w'.heap.size:=Nat.lt_of_lt_of_le hlt hb.size
 clear hg hd hc hf hlt
 go_wp2_with fail
 go_ret
 refine⟨rfl,⟨⟨oa',cap',?_,?_⟩,?_,?_,?_⟩,?_⟩
 ·rw[World.cell?_setCell_same _ _ _ hc',List.length_append]
 ·rw[List.length_append]
  exact ho'.other (fun a ha=>by have:=(ho'.lt ha).1;simp only;omega) _
 ·rw[World.frozen?_setCell];exact hf'
 ·simpa using hlt'
 ·intro v hv
  rcases List.mem_append.1 hv with h|h
  ·exact hw.byte v h
  ·exact hr.byte v h
 ·exact(hb.mono (Nat.le_succ p)).setCell (Nat.le_refl _) _
theorem be4_byte (v:Int):∀x∈be4 v,0≤x∧x<256:=by
 intro x hx
 simp only[be4,List.mem_cons,List.not_mem_nil,or_false] at hx
 omega
theorem put4_any (p:Nat)(l:List Int)(v:Int)(h0:0≤v)(h1:v<4294967296)(w:World)(hw:Wr w p l)(hm:l.length≤900000):
 Calls Tryz.prog 65 #[.pointer (some ⟨p,0,none⟩),.int .u64 v,.int .i64 4] w (WrPost w p (l++be4 v)):=by
 have HW:=Lib.hid hw
 clear hw
 go_enter Tryz.func65,Tryz.ntmps65
 go_wp2_with (go_at_call 124;refine Calls.later (fits_any v 4 h0 (by omega) (by decide) (by decide) _) ?_;intro x)
 refine Calls.mono (of4_any v h0 h1 _) ?_
 rintro e w2 ⟨oa,cap,rfl,ho,hb⟩
 go_wp2_with fail
 refine Calls.mono (raw_any p l oa _ cap (be4 v) w2 ((HW.out.later x).below hb) (ho.reads (be4_byte v)) (by simp[be4];omega)) ?_
 rintro e w3 ⟨rfl,hW3,hb3⟩
 go_wp2_with fail
 go_ret
 exact⟨rfl,hW3,((x.below.mono (Nat.le_of_lt HW.out.lt)).trans (hb.mono (Nat.le_of_lt (Nat.lt_of_lt_of_le HW.out.lt x.below.size)))).trans hb3⟩
theorem bytes_any (p:Nat)(l:List Int)(w:World)(hw:Wr w p l)(hm:l.length≤1000000):
 Calls Tryz.prog 66 #[.pointer (some ⟨p,0,none⟩)] w (NewBytes w l):=by
 obtain⟨oa,cap,hc,ho⟩:=hw.row
 go_enter Tryz.func66,Tryz.ntmps66
 go_wp2_with fail
 refine Calls.mono (clone_any oa _ cap l w (ho.reads hw.byte) hm) ?_
 rintro e w2 ⟨oa',cap',rfl,ho',hb⟩
 go_wp2_with fail
 go_ret
 exact⟨_,_,rfl,ho',hb⟩
end Go.Proofs.YtkgjbipfhhjlpaaGreatDoor.Bits
namespace Go.Proofs.YtkgjbipfhhjlpaaGreatDoor.Bits
open Go.RowKit
theorem join_any (A:Option Addr)(m c:Nat)(l:List Int)(A2:Option Addr)(m2 c2:Nat)(l2:List Int)(w:World)(hr:Reads w A m c l)(hr2:Reads w A2 m2 c2 l2)(hm:m≤1000000)(hm2:m2≤1000000):
 Calls Tryz.prog 51 #[.slice A m c,.slice A2 m2 c2] w (NewBytes w (l++l2)):=by
 obtain rfl:=hr.len
 obtain rfl:=hr2.len
 go_enter Tryz.func51,Tryz.ntmps51
 go_wp2_with (at_builtin;refine Stopped.of ?_)
 refine Stopped.mk ?_
 refine wpList_append_reads _ rfl _ _ 22 rfl 5 w.heap.size Tryz.underlying22 infoU8 none 0 0 [] rfl (Owns.nil _ _ _) A l.length c l rfl hr (by omega) (Nat.le_refl _) ?_
 intro oa' cap' w' ho hg hd
 simp only[Nat.zero_add,List.nil_append] at ho⊢
 have hb:Below w.heap.size w w':=Below.grown (Below.refl _ _) hg (Nat.le_refl _) (fun k hk=>by simp at hk)
 clear hg hd
 go_wp2_with (at_builtin;refine Stopped.of ?_)
 refine Stopped.mk ?_
 refine wpList_append_reads _ rfl _ _ 22 rfl 5 w.heap.size Tryz.underlying22 infoU8 oa' l.length cap' _ rfl ho A2 l2.length c2 l2 rfl (hr2.below hb) (by omega) hb.size ?_
 intro oa'' cap'' w'' ho2 hg hd
 rw[←List.map_append] at ho2
 have hb2:Below w.heap.size w w'':=Below.appended hb ho (Nat.le_refl _) hg hb.size
 clear hg hd
 go_wp2_with fail
 go_ret
 exact .mk ho2 (by rw[List.length_append]) hb2
def refPut (v:Int):Nat→List Int
 |0=>[]
 |n+1=>refPut (v/256) n++[v%256]
theorem refPut_len (v:Int)(n:Nat):(refPut v n).length=n:=by
 induction n generalizing v with
 |zero=>rfl
 |succ n ih=>rw[refPut,List.length_append,ih];rfl
theorem refPut4 (v:Int):refPut v 4=be4 v:=by
 simp[refPut,be4];omega
theorem refput_any (n:Nat):∀(v:Int) (w:World),n≤8→0≤v→v<18446744073709551616→Calls Tryz.prog 67 #[.int .u64 v,.int .i64 n] w (NewBytes w (refPut v n)):=by
 induction n with
 |zero=>
  intro v w hn h0 h1
  go_enter Tryz.func67,Tryz.ntmps67
  go_wp2_with fail
  go_ret
  exact⟨none,0,rfl,Owns.nil _ _ _,Below.refl _ _⟩
 |succ n ih=>
  intro v w hn h0 h1
  go_enter Tryz.func67,Tryz.ntmps67
  go_wp2_with fail
  refine Calls.mono (ih (v/256) _ (by omega) (by omega) (by omega)) ?_
  rintro e w2 ⟨oa,cap,rfl,ho,hb⟩
  clear ih
  have hlen:=refPut_len (v/256) n
  obtain⟨L,hL⟩:∃L,refPut (v/256) n=L:=⟨_,rfl⟩
  have hR:refPut v (n+1)=L++[v%256]:=by rw[refPut,hL]
  have HR:=Lib.hid hR
  rw[hL] at ho hlen⊢
  rw[hlen] at ho⊢
  have HL:=Lib.hid hlen
  clear hR hL hlen
  have hsz:=hb.size
  go_wp2_with (at_builtin;refine Stopped.of ?_)
  refine Stopped.mk ?_
  refine wpList_append_reads _ rfl _ _ 22 rfl 5 w.heap.size Tryz.underlying22 infoU8 oa n cap _ rfl (ho.alloc _) _ 1 1 [v%256] rfl ((Owns.made (base:=0) (size:=1) #[.int .u8 (v%256)] 1 1 5 _ (Nat.zero_le _) (Nat.le_refl 1) (Nat.le_refl 1) (by decide) rfl).reads (by simp;omega)) (by omega) (by simp;omega) ?_
  intro oa' cap' w' ho' hg hd
  rw[←List.map_append] at ho'
  have hb2:Below w.heap.size w w':=Below.appended (hb.alloc hsz _) (ho.alloc _) (Nat.le_refl _) hg (by simp;omega)
  clear hg hd
  go_wp2_with fail
  go_ret
  rw[HR.out]
  exact .mk ho' (by rw[List.length_append,HL.out];rfl) hb2
def numAt (l:List Int)(at_ size:Nat):Int:=numOf ((l.drop at_).take size)
theorem take_drop_snoc (l:List Int)(i k:Nat)(h:i+k<l.length):(l.drop i).take (k+1)=(l.drop i).take k++[l.getD (i+k) 0]:=by
 rw[take_snoc' _ _ (by rw[List.length_drop];omega)]
 simp[List.getD_eq_getElem?_getD,List.getElem?_drop]
theorem numAt_snoc (l:List Int)(i k:Nat)(h:i+k<l.length):numAt l i (k+1)=numAt l i k*256+l.getD (i+k) 0:=by
 unfold numAt;rw[take_drop_snoc l i k h,numOf_snoc]
end Go.Proofs.YtkgjbipfhhjlpaaGreatDoor.Bits
namespace Go.Proofs.YtkgjbipfhhjlpaaGreatDoor.Bits
open Go.RowKit
theorem get_ok (oa:Option Addr)(n cap:Nat)(l:List Int)(i sz:Nat)(w:World)(hr:Reads w oa n cap l)(h1:1≤sz)(h8:sz≤8)(hle:i+sz≤n)(hn:n≤1000000):
 Calls Tryz.prog 81 #[.slice oa n cap,.int .i64 i,.int .i64 sz] w (RetAt w (.tuple #[.int .u64 (numAt l i sz),.int .i64 0])):=by
 have HR:=Lib.hid hr
 clear hr
 have hrt:rightB sz=true:=by simp[rightB];omega
 have hcap:=HR.out.le
 have hcut:∀w,(Instr.slice 22 (.slice oa n cap) (some (.int .i64 (i:Int))) (some (.int .i64 ((i:Int)+sz))) none).run Tryz.prog w=.ok (.slice (cutAddr oa i cap 1) sz (cap-i)) w:=fun w=>by
  have:=run_cutBoth (P:=Tryz.prog) 22 oa n cap 1 elemBytes sizeBytes i (i+sz) i ((i:Int)+sz) rfl (by omega) (by omega) (by omega) w
  rwa [show i+sz-i=sz by omega] at this
 go_enter Tryz.func81,Tryz.ntmps81
 go_wp2_with (first
  |(go_at_call 142;refine Calls.later (right_any _ _) ?_;intro x;rw[hrt])
  |(go_at_call 143;refine Calls.later1 (value_any (cutAddr oa i cap 1) sz (cap-i) ((l.drop i).take sz) _ ?_ h8) ?_))
 ·have:=((HR.out.later x).cut i (by omega)).take sz (by omega)
  exact this
 ·intro y
  go_wp2_with fail
  go_ret2
  exact .mk rfl y.below
theorem get_short (oa:Option Addr)(n cap:Nat)(i sz:Nat)(w:World)(h1:1≤sz)(h8:sz≤8)(hgt:n<i+sz)(hn:n≤1000000)(hi:i≤1000000):
 Calls Tryz.prog 81 #[.slice oa n cap,.int .i64 i,.int .i64 sz] w (RetAt w (.tuple #[.int .u64 0,.int .i64 10])):=by
 have hrt:rightB sz=true:=by simp[rightB];omega
 by_cases hin:n<i
 ·have hd:decide ((i:Int)>n)=true:=by simp;omega
  go_enter Tryz.func81,Tryz.ntmps81
  go_wp2_with (go_at_call 142;refine Calls.later (right_any _ _) ?_;intro x;rw[hrt])
  go_ret2
  exact .mk rfl x.below
 ·have hd:decide ((i:Int)>n)=false:=by simp;omega
  have hd2:decide ((n:Int)-i<sz)=true:=by simp;omega
  go_enter Tryz.func81,Tryz.ntmps81
  go_wp2_with (go_at_call 142;refine Calls.later (right_any _ _) ?_;intro x;rw[hrt])
  go_ret2
  exact .mk rfl x.below
structure Rd (w:World)(b p:Nat)(l:List Int)(i:Nat):Prop where
 row:∃oa cap,w.cell? ⟨p,0,none⟩=some (.slice oa l.length cap)∧Reads w oa l.length cap l∧∀a,oa=some a→b≤a.block∧a.block<p
 pos:w.cell? ⟨p,1,none⟩=some (.int .i64 (i:Int))
 free:∀j,w.frozen? ⟨p,j,none⟩=false
 lt:p<w.heap.size
theorem Rd.below {w w':World}{b p:Nat}{l:List Int}{i:Nat}(h:Rd w b p l i)(hb:Below w.heap.size w w'):Rd w' b p l i:=by
 obtain⟨oa,cap,hc,hr,ha⟩:=h.row
 exact⟨⟨oa,cap,(hb.cell (p:=⟨p,0,none⟩) h.lt).trans hc,hr.below hb,ha⟩,(hb.cell (p:=⟨p,1,none⟩) h.lt).trans h.pos,fun j=>(hb.frozen (p:=⟨p,j,none⟩) h.lt).trans (h.free j),Nat.lt_of_lt_of_le h.lt hb.size⟩
theorem Rd.later {w:World}{b p:Nat}{l:List Int}{i:Nat}(h:Rd w b p l i)(x:Later w):Rd x.world b p l i:=h.below x.below
theorem Rd.step {w:World}{b p:Nat}{l:List Int}{i:Nat}(h:Rd w b p l i)(k:Nat):Rd (w.setCell ⟨p,1,none⟩ (.int .i64 (k:Int))) b p l k:=by
 obtain⟨oa,cap,hc,hr,ha⟩:=h.row
 refine⟨⟨oa,cap,?_,hr.other (fun a e=>by have:=(ha a e).2;simp only;omega) _,ha⟩,World.cell?_setCell_same _ _ _ h.pos,fun j=>?_,by simpa using h.lt⟩
 ·rw[World.cell?_setCell_other _ _ _ _ (by simp)];exact hc
 ·rw[World.frozen?_setCell];exact h.free j
def NewReader (w:World)(l:List Int):Ending→World→Prop:=fun e w'=>∃p,e=.returned (.pointer (some ⟨p,0,none⟩))∧w.heap.size≤p∧Rd w' w.heap.size p l 0∧Below w.heap.size w w'
theorem read_any (oa:Option Addr)(n cap:Nat)(l:List Int)(w:World)(hr:Reads w oa n cap l)(hb:n≤1000000):Calls Tryz.prog 137 #[.slice oa n cap] w (NewReader w l):=by
 have HB:=hr.byte
 have HB:=Lib.hid HB
 go_enter Tryz.func137,Tryz.ntmps137
 go_wp2_with fail
 refine Calls.mono (clone_any oa n cap l _ hr hb) ?_
 rintro e w2 ⟨oa',cap',rfl,ho,hb2⟩
 go_wp2_with fail
 go_ret
 have hsz:=hb2.size
 have hrd:=(ho.reads HB.out).alloc (.cells #[.slice oa' l.length cap',.int .i64 0] 282)
 refine⟨w2.heap.size,rfl,hb2.size,⟨⟨oa',cap',by go_cell,hrd,fun a ha=>ho.lt ha⟩,by go_cell,fun j=>by go_cell,by simp⟩,hb2.alloc hb2.size _⟩
end Go.Proofs.YtkgjbipfhhjlpaaGreatDoor.Bits
namespace Go.Proofs.YtkgjbipfhhjlpaaGreatDoor
section
open Go.RowKit
theorem numAt_two (l:List Int)(i:Nat)(h:i+2≤l.length):Bits.numAt l i 2=w2 l i:=by
 rw[Bits.numAt_snoc l i 1 (by omega),Bits.numAt_snoc l i 0 (by omega)]
 unfold w2
 rw[show Bits.numAt l i 0=0 from rfl]
 rw[Nat.add_zero];omega
theorem numAt_four (l:List Int)(i:Nat)(h:i+4≤l.length):Bits.numAt l i 4=w4 l i:=by
 rw[Bits.numAt_snoc l i 3 (by omega),Bits.numAt_snoc l i 2 (by omega),numAt_two l i (by omega)]
 unfold w4 w2
 rw[show i+2+1=i+3 from rfl]
 omega
theorem u16_bit (f k:Nat)(hf:f<65536)(hk:k<16):bits .and .u16 (f:Int) ((2^k:Nat):Int)=if f/2^k%2=1 then ((2^k:Nat):Int) else 0:=by
 have h2:2^k<65536:=Nat.lt_of_lt_of_le (Nat.pow_lt_pow_right (by omega) hk) (by decide)
 have hk2:f.testBit k=decide (f/2^k%2=1):=Nat.testBit_eq_decide_div_mod_eq
 rw[u16_and_nat f (2^k) hf h2]
 by_cases h:f/2^k%2=1
 ·rw[if_pos h]
  congr 1
  apply Nat.eq_of_testBit_eq
  intro i
  rw[Nat.testBit_and,Nat.testBit_two_pow]
  by_cases e:k=i
  ·subst e;rw[hk2,decide_eq_true h];rfl
  ·rw[decide_eq_false e,Bool.and_false]
 ·rw[if_neg h,show f &&& 2^k=0 from ?_]
  ·rfl
  apply Nat.eq_of_testBit_eq
  intro i
  rw[Nat.testBit_and,Nat.testBit_two_pow,Nat.zero_testBit]
  by_cases e:k=i
  ·subst e;rw[hk2,decide_eq_false h];rfl
  ·rw[decide_eq_false e,Bool.and_false]
theorem u8_low4 (x:Nat)(h:x<256):bits .and .u8 (x:Int) 15=((x%16:Nat):Int):=by
 have:=u8_and_nat x 15 h (by omega)
 rw[show(15:Nat)=2^4-1 from rfl,Nat.and_two_pow_sub_one_eq_mod] at this
 exact this
theorem u16_low13 (x:Nat)(h:x<65536):bits .and .u16 (x:Int) 8191=((x%8192:Nat):Int):=by
 have:=u16_and_nat x 8191 h (by omega)
 rw[show(8191:Nat)=2^13-1 from rfl,Nat.and_two_pow_sub_one_eq_mod] at this
 exact this
theorem word_any (oa:Option Addr)(n cap:Nat)(l:List Int)(i:Nat)(w:World)(hr:Reads w oa n cap l)(hle:i+2≤n)(hn:n≤1000000):
 Calls Tryz.prog 104 #[.slice oa n cap,.int .i64 (i:Int)] w (RetAt w (.int .u16 (w2 l i))):=by
 have HG:=Lib.hid (Bits.get_ok oa n cap l i 2 w hr (by omega) (by omega) hle hn)
 rw[numAt_two l i (by have:=hr.len;omega)] at HG
 have hb:=w2_bd hr.byte i
 clear hr
 generalize w2 l i=v at*
 go_enter Tryz.func104,Tryz.ntmps104
 go_wp2_with fail
 refine Calls.later HG.out ?_
 intro x
 go_wp2_with fail
 go_ret
 exact .mk rfl x.below
end
end Go.Proofs.YtkgjbipfhhjlpaaGreatDoor
