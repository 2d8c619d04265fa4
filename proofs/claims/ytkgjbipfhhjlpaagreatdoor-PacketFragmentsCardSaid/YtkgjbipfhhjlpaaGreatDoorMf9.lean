import Derived.Test.YtkgjbipfhhjlpaaGreatDoorMf7
import Derived.Deep.RegionHeld3
import Derived.Deep.DrawnRows
set_option linter.unusedVariables false
set_option linter.unusedSimpArgs false
set_option maxRecDepth 100000
set_option maxHeartbeats 32000000
namespace Go.Proofs.YtkgjbipfhhjlpaaGreatDoor
section
open Go.RowKit
theorem JlJ (m:Nat)(h:m<18446744073709551616):bits .and .u64 (m:Int) 65535=((m%65536:Nat):Int):=by
 have h2:=bits_and_u64_nat m 65535 h (by omega)
 rw[show(65535:Nat)=2^16-1 from rfl,Nat.and_two_pow_sub_one_eq_mod] at h2
 exact h2
theorem Jmj (n:Nat)(hn:n<18446744073709551616)(w:World):Calls Tryz.prog 197 #[.int .u64 (n:Int)] w (Jk w (.int .u64 (foldN n:Nat))):=by
 go_enter Tryz.func197,Tryz.ntmps197
 go_wp2_with fail
 go_loopw [0] (fun u0 wr=>∃m:Nat,m<18446744073709551616∧u0=.int .u64 m∧Hid (foldN m=foldN n)∧wr=w) (fun u0 _=>(intOf u0).toNat)
 case atStart=>exact⟨n,hn,rfl,Jnv rfl,rfl⟩
 case round=>
  obtain⟨m,hm,rfl,HF,rfl⟩:=hrel
  by_cases hle:m≤65535
  ·have HR:Hid (foldN n=m):=Jnv (by rw[←HF.out,Jc1 hle])
   have hle':(m:Int)≤65535:=by omega
   clear HF
   go_wp2_with fail
   go_ret
   exact .mk (by rw[HR.out];rfl) (Jny _ _)
  ·have hle':¬((m:Int)≤65535):=by omega
   have hgt':(65535:Int)<m:=by omega
   have HS:Hid (foldN (m/65536+m%65536)=foldN n):=Jnv (by rw[Jd5,HF.out])
   have q1:Int.tdiv (m:Int) 65536=((m/65536:Nat):Int):=by rw[Int.tdiv_eq_ediv_of_nonneg (by omega)];omega
   have q2:Int.tmod (m:Int) 65536=((m%65536:Nat):Int):=by rw[Int.tmod_eq_emod_of_nonneg (by omega)];omega
   have b1:m/65536<281474976710656:=by omega
   have b2:m%65536<65536:=by omega
   have b3:m/65536+m%65536<m:=by omega
   clear HF
   generalize m/65536=a at*
   generalize m%65536=b at*
   go_wp2_with fail
   go_roundw
   case rel=>exact⟨a+b,by omega,by go_num,HS,trivial⟩
   case measure=>simp[intOf];omega
theorem JhP (n:Nat)(hn:n<18446744073709551616)(w:World):Calls Tryz.prog 198 #[.int .u64 (n:Int)] w (Jk w (.int .u16 (foldN n:Nat))):=by
 have hfl:=Jbv n
 go_enter Tryz.func198,Tryz.ntmps198
 go_wp2_with fail
 go_step3
 go_wp2_with fail
 go_step3
 go_wp2_with fail
 go_loopg [0] n (fun g u0 wr=>∃m:Nat,m=g∧m<18446744073709551616∧u0=.int .u64 m∧Hid (foldN m=foldN n)∧wr=w)
 case atStart=>exact⟨n,rfl,hn,rfl,Jnv rfl,rfl⟩
 case round=>
  obtain⟨m,rfl,hm,rfl,HF,rfl⟩:=hrel
  by_cases hle:m≤65535
  ·have HR:Hid (foldN n=m):=Jnv (by rw[←HF.out,Jc1 hle])
   have hle':(m:Int)≤65535:=by omega
   clear HF
   go_wp2_with fail
   go_ret
   exact .mk (by rw[HR.out];rfl) (Jny _ _)
  ·have hle':¬((m:Int)≤65535):=by omega
   have HS:Hid (foldN (m%65536+m/65536)=foldN n):=Jnv (by rw[Nat.add_comm,Jd5,HF.out])
   have q1:=JlJ m hm
   have q2:(m:Int)/65536=((m/65536:Nat):Int):=by omega
   have b1:m/65536<281474976710656:=by omega
   have b2:m%65536<65536:=by omega
   have b3:m%65536+m/65536<m:=by omega
   clear HF
   generalize m/65536=a at*
   generalize m%65536=b at*
   go_wp2_with fail
   go_roundg (b+a)
   case measure=>omega
   case rel=>exact⟨b+a,rfl,by omega,by go_num,HS,rfl⟩
structure Zj (w:World)(p:Nat)(L:List Int):Prop where
 sum:∃n:Nat,w.cell? ⟨p,0,none⟩=some (.int .u64 (n:Int))∧n≤200000∧foldN n=foldN (Jam true L)
 many:w.cell? ⟨p,1,none⟩=some (.int .i64 (L.length:Int))
 free:∀j,w.frozen? ⟨p,j,none⟩=false
 lt:p<w.heap.size
theorem Zj.put {w:World}{p:Nat}{L L':List Int}(h:Zj w p L)(y:JC w)(n':Nat)(v k:Int)(hv:v=n')(hk:k=L'.length)(hn:n'≤200000)(hf:foldN n'=foldN (Jam true L')):
 Zj ((y.world.setCell ⟨p,0,none⟩ (.int .u64 v)).setCell ⟨p,1,none⟩ (.int .i64 k)) p L':=by
 subst hv hk
 obtain⟨n,hc,-⟩:=h.sum
 have c0:=(y.below.cell (p:=⟨p,0,none⟩) h.lt).trans hc
 have c1:=(y.below.cell (p:=⟨p,1,none⟩) h.lt).trans h.many
 have c1':(y.world.setCell ⟨p,0,none⟩ (.int .u64 (n':Int))).cell? ⟨p,1,none⟩=some (.int .i64 (L.length:Int)):=by
  rw[World.cell?_setCell_other _ _ _ _ (by simp)];exact c1
 refine⟨⟨n',?_,hn,hf⟩,World.cell?_setCell_same _ _ _ c1',fun j=>?_,?_⟩
 ·rw[World.cell?_setCell_other _ _ _ _ (by simp)]
  exact World.cell?_setCell_same _ _ _ c0
 ·rw[World.frozen?_setCell,World.frozen?_setCell]
  exact(y.below.frozen (p:=⟨p,j,none⟩) h.lt).trans (h.free j)
 ·have:=Jnz h.lt y.below.size
  simpa using this
theorem JjA (l:List Int)(x:Int):Jam true (l++[x])=Jam true l+(if l.length%2=0 then x.toNat*256 else x.toNat):=by
 rw[Zc,Jc2]
 by_cases h:l.length%2=0
 ·rw[if_pos h,decide_eq_true h];simp[Jam]
 ·rw[if_neg h,decide_eq_false h];simp[Jam]
def Je9 (w:World)(p:Nat)(L:List Int):Ending→World→Prop:=fun e w'=>e=.returned (.tuple #[])∧Zj w' p L∧Below p w w'
theorem JkC (p:Nat)(L:List Int)(g off:Nat)(m c:Nat)(l:List Int)(w:World)(hs:Zj w p L)(hr:Jj w (some ⟨g,off,none⟩) m c l)(hgp:g<p)(hm:m≤1000000)(hL:L.length≤1000000):
 Calls Tryz.prog 160 #[.pointer (some ⟨p,0,none⟩),.slice (some ⟨g,off,none⟩) m c] w (Je9 w p (L++l)):=by
 have HS:=Jnv hs
 have HR:=Jnv hr
 have hlen:=hr.len
 have hlw:=hs.lt
 clear hs hr
 go_enter Tryz.func160,Tryz.ntmps160
 go_wp2_with fail
 go_loopw [11] (fun u11 wr=>∃i:Nat,i≤m∧u11=.int .i64 i∧Hid (Zj wr p (L++l.take i))∧Hid (Below p w wr)) (fun u11 _=>(m:Int)-intOf u11 |>.toNat)
 case atStart=>exact⟨0,Nat.zero_le _,rfl,Jnv (by simpa using HS.out),Jnv (Jny _ _)⟩
 case round=>
  obtain⟨i,hi,rfl,HX,HW⟩:=hrel
  by_cases hlt:i<m
  ·have HR2:=Jnv (HR.out.belowB HW.out (fun a ha=>by cases ha;exact hgp))
   obtain⟨g',off',hop,hgl,hc⟩:=HR2.out.here (by omega)
   cases hop
   have hcx:=hc i hlt
   have hx:=HR.out.getD i
   have hts:l.take (i+1)=l.take i++[l.getD i 0]:=by
    rw[List.take_succ_eq_append_getElem (by omega),List.getD_eq_getElem?_getD,List.getElem?_eq_getElem (by omega)];rfl
   obtain⟨n,hn0,hn1,hn2⟩:=HX.out.sum
   have hmany:=HX.out.many
   have hf0:=HX.out.free 0
   have hf1:=HX.out.free 1
   have hlx:=HX.out.lt
   have hll:(L++l.take i).length=L.length+i:=by rw[List.length_append,List.length_take];omega
   rw[hll] at hmany
   have HSN:Hid (Jam true (L++l.take (i+1))=Jam true (L++l.take i)+(if (L.length+i)%2=0 then (l.getD i 0).toNat*256 else (l.getD i 0).toNat)):=Jnv (by
    rw[hts,←List.append_assoc,JjA,hll])
   have HLN:Hid ((L++l.take (i+1)).length=L.length+i+1):=Jnv (by rw[List.length_append,List.length_take];omega)
   have HN2:=Jnv hn2
   have hfn:=Jbv n
   have HFO:=Jnv (fun w=>JhP n (by omega) w)
   have HFS:Hid (∀v,foldN (foldN n+v)=foldN (Jam true (L++l.take i)+v)):=Jnv fun v=>by rw[hn2];exact JfG _ v
   obtain⟨x,hxe⟩:∃x:Nat,l.getD i 0=x:=⟨(l.getD i 0).toNat,by omega⟩
   rw[hxe] at hcx hx HSN
   simp only[Int.toNat_natCast] at HSN
   obtain⟨par,hpar,hpb⟩:∃par:Nat,Int.tmod ((L.length+i:Nat):Int) 2=par∧par=(L.length+i)%2:=⟨_,by rw[Int.tmod_eq_emod_of_nonneg (by omega)];omega,rfl⟩
   rw[←hpb] at HSN
   have hpp:par=0∨par=1:=by omega
   generalize hk:L.length+i=k at*
   have hkb:k≤2000000:=by omega
   clear hc hts hpb hn2 hll hxe hlen
   generalize foldN n=fn at*
   rcases hpp with rfl|rfl
   ·rw[if_pos rfl] at HSN
    go_wp2_with fail
    refine Calls.later (HFO.out _) ?_
    intro y
    go_wp2_with fail
    exact⟨⟨i+1,by omega,by go_num,Jnv (HX.out.put y (fn+x*256) _ _ (by omega) (by rw[HLN.out];omega) (by omega) (by rw[HSN.out,HFS.out])),Jnv ((((HW.out.trans (y.below.mono (Nat.le_of_lt hlx))).setCell (by simp only;omega) _)).setCell (by simp only;omega) _)⟩,by simp[intOf];omega⟩
   ·rw[if_neg (by omega)] at HSN
    go_wp2_with fail
    refine Calls.later (HFO.out _) ?_
    intro y
    go_wp2_with fail
    exact⟨⟨i+1,by omega,by go_num,Jnv (HX.out.put y (fn+x) _ _ (by omega) (by rw[HLN.out];omega) (by omega) (by rw[HSN.out,HFS.out])),Jnv ((((HW.out.trans (y.below.mono (Nat.le_of_lt hlx))).setCell (by simp only;omega) _)).setCell (by simp only;omega) _)⟩,by simp[intOf];omega⟩
  ·obtain rfl:i=m:=by omega
   have HT:Hid (Zj wr p (L++l)):=Jnv (by have:=HX.out;rwa [List.take_of_length_le (by omega)] at this)
   clear HX
   go_wp2_with fail
   go_end0
   exact⟨rfl,HT.out,HW.out⟩
theorem Jgp (p:Nat)(L:List Int)(w:World)(hs:Zj w p L):Calls Tryz.prog 161 #[.pointer (some ⟨p,0,none⟩)] w (Jk w (.int .u16 (sumOf L:Nat))):=by
 obtain⟨n,h0,hn,hf⟩:=hs.sum
 have HF:=Jnv hf
 have hfl:=Jbv n
 have HFO:=Jnv (fun w=>JhP n (by omega) w)
 have HV:Hid ((sumOf L:Nat)=65535-foldN n):=Jnv (by unfold sumOf;rw[HF.out])
 clear hs hf
 generalize foldN n=fn at*
 go_enter Tryz.func161,Tryz.ntmps161
 go_wp2_with fail
 refine Calls.later (HFO.out _) ?_
 intro x
 go_wp2_with fail
 go_ret
 refine .mk ?_ x.below
 rw[HV.out]
 show Value.int .u16 (65535-(fn:Int))=.int .u16 (((65535-fn:Nat)):Int)
 congr 1
 omega
theorem Jj.addr {w:World}{oa:Option Addr}{n cap:Nat}{l:List Int}(h:Jj w oa n cap l):n=0∨∃g off,oa=some ⟨g,off,none⟩∧g<w.heap.size:=by
 rcases h.at' with h|⟨g,off,e,hl,-⟩
 ·exact .inl h
 ·exact .inr ⟨g,off,e,hl⟩
theorem JkD (p:Nat)(L:List Int)(A:Option Addr)(c:Nat)(w:World)(hs:Zj w p L):Calls Tryz.prog 160 #[.pointer (some ⟨p,0,none⟩),.slice A 0 c] w (Je9 w p L):=by
 have HS:=Jnv hs
 clear hs
 go_enter Tryz.func160,Tryz.ntmps160
 go_wp2_with fail
 go_loopw [11] (fun u11 wr=>u11=.int .i64 0∧wr=w) (fun _ _=>0)
 case atStart=>exact⟨rfl,rfl⟩
 case round=>
  obtain⟨rfl,rfl⟩:=hrel
  go_wp2_with fail
  go_end0
  exact⟨rfl,HS.out,Jny _ _⟩
theorem JlK (p:Nat)(L:List Int)(A:Option Addr)(m c:Nat)(l:List Int)(w:World)(hs:Zj w p L)(hr:Jj w A m c l)(hA:∀a,A=some a→a.block<p)(hm:m≤1000000)(hL:L.length≤1000000):
 Calls Tryz.prog 160 #[.pointer (some ⟨p,0,none⟩),.slice A m c] w (Je9 w p (L++l)):=by
 rcases hr.addr with rfl|⟨g,off,rfl,-⟩
 ·have:l=[]:=List.length_eq_zero_iff.1 hr.len
  subst this
  rw[List.append_nil]
  exact JkD p L A c w hs
 ·exact JkC p L g off m c l w hs hr (hA _ rfl) hm hL
structure QL (w:World)(p R k:Nat)(rs:List (List Int)):Prop where
 len:rs.length=k
 lt:R<p
 row:∀j (h:j<rs.length),∃A m cap,w.cell? ⟨R,j,none⟩=some (.slice A m cap)∧Jj w A m cap rs[j]∧m≤100000∧∀a,A=some a→a.block<p
theorem QL.below {w w':World}{p R k:Nat}{rs:List (List Int)}(h:QL w p R k rs)(hb:Below p w w'):QL w' p R k rs:=
 ⟨h.len,h.lt,fun j hj=>by
   obtain⟨A,m,cap,h1,h2,h3,h4⟩:=h.row j hj
   exact⟨A,m,cap,(hb.cell (p:=⟨R,j,none⟩) h.lt).trans h1,h2.belowB hb h4,h3,h4⟩⟩
theorem JkE (p R k c:Nat)(rs:List (List Int))(w:World)(hr:QL w p R k rs)(hs:Zj w p [])(hk:k≤8):
 Calls Tryz.prog 159 #[.slice (some ⟨R,0,none⟩) k c,.func (.func 160) #[.pointer (some ⟨p,0,none⟩)] #[]] w (Je9 w p rs.flatten):=by
 have HR:=Jnv hr
 have HS:=Jnv hs
 have hlen:=hr.len
 have HFL:Hid (∀i,i≤rs.length→(rs.take i).flatten.length≤100000*i):=Jnv fun i=>by
  induction i with
  |zero=>intro _;simp
  |succ i ih=>
   intro hi
   have h1:=ih (by omega)
   obtain⟨A,m,cap,-,h2,h3,-⟩:=hr.row i (by omega)
   have:=h2.len
   rw[List.take_succ_eq_append_getElem (by omega),List.flatten_append,List.length_append]
   simp only[List.flatten_cons,List.flatten_nil,List.append_nil]
   omega
 clear hr hs
 go_enter Tryz.func159,Tryz.ntmps159
 go_wp2_with fail
 go_loopw [8] (fun u8 wr=>∃i:Nat,i≤k∧u8=.int .i64 i∧Hid (Zj wr p (rs.take i).flatten)∧Hid (Below p w wr)) (fun u8 _=>(k:Int)-intOf u8 |>.toNat)
 case atStart=>exact⟨0,Nat.zero_le _,rfl,Jnv (by simpa using HS.out),Jnv (Jny _ _)⟩
 case round=>
  obtain⟨i,hi,rfl,HX,HW⟩:=hrel
  by_cases hlt:i<k
  ·obtain⟨A,m,cap,hc,hrd,hm,hA⟩:=(HR.out.below HW.out).row i (by omega)
   have HRD:=Jnv hrd
   have HAB:=Jnv hA
   have hfl:=HFL.out i (by omega)
   have HT:Hid ((rs.take (i+1)).flatten=(rs.take i).flatten++rs[i]):=Jnv (by
    rw[List.take_succ_eq_append_getElem (by omega),List.flatten_append];simp)
   clear hrd hA
   go_wp2_with fail
   refine Jnx (JlK p _ A m cap _ _ HX.out HRD.out HAB.out (by omega) (by omega)) ?_
   rintro e w2 ⟨rfl,hs2,hb2⟩
   have HX2:Hid (Zj w2 p (rs.take (i+1)).flatten):=Jnv (by rw[HT.out];exact hs2)
   have HW2:=Jnv (HW.out.trans hb2)
   clear hs2 hb2 HX HW HT hc
   go_wp2_with fail
   go_roundw
   case rel=>exact⟨i+1,by omega,by go_num,HX2,HW2⟩
   case measure=>simp[intOf];omega
  ·obtain rfl:i=k:=by omega
   have HT:Hid (Zj wr p rs.flatten):=Jnv (by have:=HX.out;rwa [List.take_of_length_le (by omega)] at this)
   clear HX
   go_wp2_with fail
   go_end0
   exact⟨rfl,HT.out,HW.out⟩
theorem Jaw (R k c:Nat)(rs:List (List Int))(w:World)(hr:QL w w.heap.size R k rs)(hk:k≤8):Calls Tryz.prog 113 #[.slice (some ⟨R,0,none⟩) k c] w (Jk w (.int .u16 (sumOf rs.flatten:Nat))):=by
 have HR:Hid (QL (w.alloc (.cells #[.int .u64 0,.int .i64 0] 255)) w.heap.size R k rs):=Jnv (hr.below (Below.all (Jny _ _) _))
 have HS:Hid (Zj (w.alloc (.cells #[.int .u64 0,.int .i64 0] 255)) w.heap.size []):=Jnv ⟨⟨0,by go_cell,by omega,rfl⟩,by go_cell,fun j=>by go_cell,by simp⟩
 clear hr
 go_enter Tryz.func113,Tryz.ntmps113
 go_wp2_with fail
 refine Jnx (JkE w.heap.size R k c rs _ HR.out HS.out hk) ?_
 rintro e w2 ⟨rfl,hs2,hb2⟩
 have HB:=Jnv ((Below.all (Jny w.heap.size w) (.cells #[.int .u64 0,.int .i64 0] 255)).trans hb2)
 have HS2:=Jnv hs2
 clear hs2 hb2
 go_wp2_with fail
 refine Calls.later (Jgp _ _ _ HS2.out) ?_
 intro x
 go_wp2_with fail
 go_ret
 exact .mk rfl (HB.out.trans (x.below.mono HB.out.size))
theorem JjB (R k c:Nat)(rs:List (List Int))(w:World)(hr:QL w w.heap.size R k rs)(hk:k≤8):Calls Tryz.prog 106 #[.slice (some ⟨R,0,none⟩) k c] w (Jk w (.bool (Zr rs.flatten))):=by
 have HO:=Jnv (Jaw R k c rs w hr hk)
 have HV:=Jnv (Jkh rs.flatten)
 have hle:=JaO rs.flatten
 clear hr
 generalize sumOf rs.flatten=s at*
 generalize Zr rs.flatten=b at*
 go_enter Tryz.func106,Tryz.ntmps106
 go_wp2_with fail
 refine Calls.later HO.out ?_
 intro x
 by_cases h0:s=0
 ·subst h0
  have HB:Hid (b=true):=Jnv (by rw[←HV.out];rfl)
  clear HV HO
  go_wp2_with fail
  go_ret
  exact .mk (by rw[HB.out];rfl) x.below
 ·have h0':((s:Int)==0)=false:=by simp;omega
  have HB:Hid (b=((s:Int)==65535)):=Jnv (by
   rw[←HV.out]
   by_cases h1:s=65535
   ·subst h1;rfl
   ·rw[beq_false_of_ne h0,beq_false_of_ne h1,beq_false_of_ne (by omega)];rfl)
  clear HV HO
  go_wp2_with fail
  go_ret
  exact .mk (by rw[HB.out];rfl) x.below
theorem JjC:(Tryz.prog.info? 124).map (fun i=>(i.zero,i.size,i.bytes))=some (some (.int .u64 0),1,8):=by kernel_rfl
end
end Go.Proofs.YtkgjbipfhhjlpaaGreatDoor
namespace Go.Proofs.YtkgjbipfhhjlpaaGreatDoor.Bits
open Go.RowKit
theorem elemBytes:Tryz.prog.underlying 22=some (.slice (Tryz.prog.elem 22)):=by kernel_rfl
theorem sizeBytes:(Tryz.prog.info? (Tryz.prog.elem 22)).map (·.size)=some 1:=by kernel_rfl
theorem Jgq (v x:Int)(hv:0≤v)(hv':v<72057594037927936)(hx:0≤x)(hx':x<256):bits .or .u64 (v*256) x=v*256+x:=by
 obtain⟨a,rfl⟩:∃a:Nat,v=a:=⟨v.toNat,by omega⟩
 obtain⟨b,rfl⟩:∃b:Nat,x=b:=⟨x.toNat,by omega⟩
 have e:((BitVec.ofInt 64 ((a:Int)*256)) ||| (BitVec.ofInt 64 (b:Int))).toNat=a*256+b:=by
  rw[BitVec.toNat_or,show((a:Int)*256)=((a*256:Nat):Int) by omega,BitVec.ofInt_natCast,BitVec.ofInt_natCast,BitVec.toNat_ofNat,BitVec.toNat_ofNat,Nat.mod_eq_of_lt (by omega),Nat.mod_eq_of_lt (by omega)]
  have:=Nat.two_pow_add_eq_or_of_lt (i:=8) (b:=b) (by omega) a
  rw[Nat.mul_comm a 256]
  exact this.symm
 show IntKind.u64.wrap (((BitVec.ofInt 64 ((a:Int)*256)) ||| (BitVec.ofInt 64 (b:Int))).toNat:Int)=_
 rw[e,IntWalk.u64_in _ (by omega)]
 omega
theorem JjD (oa:Option Addr)(n cap:Nat)(l:List Int)(w:World)(hr:Jj w oa n cap l)(hn:n≤8):Calls Tryz.prog 143 #[.slice oa n cap] w (Jk w (.int .u64 (JdL l))):=by
 have HR:=Jnv hr
 clear hr
 go_enter Tryz.func143,Tryz.ntmps143
 go_wp2_with fail
 go_loopw [2,7] (fun u2 u7 wr=>∃k:Nat,k≤n∧u7=.int .i64 k∧u2=.int .u64 (JdL (l.take k))∧wr=w) (fun _ u7 _=>(n:Int)-intOf u7 |>.toNat)
 case atStart=>exact⟨0,Nat.zero_le _,rfl,rfl,rfl⟩
 case round=>
  obtain⟨k,hk,rfl,rfl,rfl⟩:=hrel
  by_cases hlt:k<n
  ·obtain⟨g,off,rfl,hg,hc⟩:=HR.out.here (by omega)
   have hts:=JaN l k (by rw[HR.out.len];exact hlt)
   have hck:=hc k hlt
   have hbk:=HR.out.getD k
   clear hc
   obtain⟨x,hx⟩:∃x,l.getD k 0=x:=⟨_,rfl⟩
   rw[hx] at hts hck hbk
   clear hx
   have hb:=Jkg (l.take k) (fun v hv=>HR.out.byte v (List.mem_of_mem_take hv))
   have hl:(l.take k).length=k:=by rw[List.length_take,HR.out.len];omega
   rw[hl] at hb
   have hp:=Jlr k (by omega)
   have hb0:=hb.1
   have hb1:JdL (l.take k)<72057594037927936:=by omega
   have hx0:=hbk.1
   have hx1:=hbk.2
   have ho:=Jgq _ x hb0 hb1 hx0 hx1
   have HO:=Jnv ho
   have HT:=Jnv hts
   clear hb hp hl hbk ho hts
   go_wp2_with fail
   go_roundw
   case rel=>exact⟨k+1,by omega,by go_num,by rw[HT.out,Jb1,←HO.out],trivial⟩
   case measure=>simp[intOf];omega
  ·obtain rfl:k=n:=by omega
   go_wp2_with fail
   go_ret
   refine .mk (Jal ?_) (Jny _ _)
   rw[List.take_of_length_le (by rw[HR.out.len];exact JnA _)]
theorem Jmk (oa:Option Addr)(n c:Nat)(w:World):(binOp .eql 22 (.slice oa n c) (.slice none 0 0)).run Tryz.prog w=.ok (.bool oa.isNone) w:=Lib.run_eql_slice_nil w 22 5 oa n c 0 0 Tryz.underlying22
theorem clone_any (oa:Option Addr)(n cap:Nat)(l:List Int)(w:World)(hr:Jj w oa n cap l)(hn:n≤1000000):Calls Tryz.prog 105 #[.slice oa n cap] w (J9 w l):=by
 have HR:=Jnv hr
 clear hr
 rcases oa with _|a0
 ·have hq:=Jmk none n cap
  simp only[Option.isNone] at hq
  go_enter Tryz.func105,Tryz.ntmps105
  go_wp2_with fail
  go_ret
  have hl:l=[]:=by
   rcases HR.out.at' with h0|⟨g,off,e,-⟩
   ·exact List.eq_nil_of_length_eq_zero (by rw[HR.out.len,h0])
   ·cases e
  subst hl
  exact⟨none,0,rfl,JI.nil _ _ _,Jny _ _⟩
 ·have hq:=Jmk (some a0) n cap
  simp only[Option.isNone] at hq
  go_enter Tryz.func105,Tryz.ntmps105
  go_wp2_with (at_builtin;refine JB.of ?_)
  refine JB.mk ?_
  obtain rfl:=HR.out.len
  refine JD _ rfl _ _ 22 rfl 5 w.heap.size Tryz.underlying22 infoU8 _ 0 0 [] rfl (JI.made #[] 0 0 5 [] (JnA _) (JnA _) (JnA _) (Nat.zero_le _) rfl) (some a0) l.length cap l rfl (HR.out.alloc _) (by omega) (by simp) ?_
  intro oa' cap' w' ho hg hd
  simp only[Nat.zero_add,List.nil_append] at ho⊢
  have hb:Below w.heap.size w w':=Below.grown ((Jny _ _).alloc (JnA _) _) hg (by simp) (fun k hk=>by simp at hk;omega)
  clear hg hd
  go_wp2_with fail
  go_ret
  exact .mk ho rfl hb
structure Wr (w:World)(p:Nat)(l:List Int):Prop where
 row:∃oa cap,w.cell? ⟨p,0,none⟩=some (.slice oa l.length cap)∧JI w (p+1) 1 oa l.length cap (l.map (.int .u8))
 free:w.frozen? ⟨p,0,none⟩=false
 lt:p<w.heap.size
 byte:∀v∈l,0≤v∧v<256
theorem Wr.below {w w':World}{p:Nat}{l:List Int}(h:Wr w p l)(hb:Below w.heap.size w w'):Wr w' p l:=by
 obtain⟨oa,cap,hc,ho⟩:=h.row
 exact⟨⟨oa,cap,(hb.cell (p:=⟨p,0,none⟩) h.lt).trans hc,ho.below hb⟩,(hb.frozen (p:=⟨p,0,none⟩) h.lt).trans h.free,Jnz h.lt hb.size,h.byte⟩
theorem Wr.later {w:World}{p:Nat}{l:List Int}(h:Wr w p l)(x:JC w):Wr x.world p l:=h.below x.below
def JhQ (w:World)(p:Nat)(l:List Int):Ending→World→Prop:=fun e w'=>e=.returned (.int .i64 0)∧Wr w' p l∧Below p w w'
theorem Jdh (p:Nat)(l:List Int)(A:Option Addr)(m c:Nat)(l2:List Int)(w:World)(hw:Wr w p l)(hr:Jj w A m c l2)(hm:l.length+l2.length≤1000000):
 Calls Tryz.prog 63 #[.pointer (some ⟨p,0,none⟩),.slice A m c] w (JhQ w p (l++l2)):=by
 obtain rfl:=hr.len
 obtain⟨oa,cap,hc,ho⟩:=hw.row
 have hf:=hw.free
 have hlt:=hw.lt
 go_enter Tryz.func63,Tryz.ntmps63
 go_wp2_with (at_builtin;refine JB.of ?_)
 refine JB.mk ?_
 refine JD _ rfl _ _ 22 rfl 5 (p+1) Tryz.underlying22 infoU8 oa l.length cap _ rfl ho A l2.length c l2 rfl hr (by omega) hlt ?_
 intro oa' cap' w' ho' hg hd
 rw[←List.map_append] at ho'
 have hb:Below (p+1) w w':=Jnm (Jny _ _) ho (JnA _) hg hlt
 have hc':=(hb.cell (p:=⟨p,0,none⟩) (Nat.lt_succ_self p)).trans hc
 have hf':=(hb.frozen (p:=⟨p,0,none⟩) (Nat.lt_succ_self p)).trans hf
 have hlt':p<w'.heap.size:=Jnz hlt hb.size
 clear hg hd hc hf hlt
 go_wp2_with fail
 go_ret
 refine⟨rfl,⟨⟨oa',cap',?_,?_⟩,?_,?_,?_⟩,?_⟩
 ·rw[World.cell?_setCell_same _ _ _ hc',List.length_append]
 ·rw[List.length_append]
  exact ho'.other (fun a ha=>by have:=(ho'.lt ha).1;simp only;omega) _
 ·rw[World.frozen?_setCell];exact hf'
 ·simpa using hlt'
 ·intro v hv
  rcases List.mem_append.1 hv with h|h
  ·exact hw.byte v h
  ·exact hr.byte v h
 ·exact(hb.mono (Nat.le_succ p)).setCell (JnA _) _
theorem Jfa (v:Int):∀x∈be4 v,0≤x∧x<256:=by
 intro x hx
 simp only[be4,List.mem_cons,List.not_mem_nil,or_false] at hx
 omega
theorem JkF (p:Nat)(l:List Int)(v:Int)(h0:0≤v)(h1:v<4294967296)(w:World)(hw:Wr w p l)(hm:l.length≤900000):
 Calls Tryz.prog 65 #[.pointer (some ⟨p,0,none⟩),.int .u64 v,.int .i64 4] w (JhQ w p (l++be4 v)):=by
 have HW:=Jnv hw
 clear hw
 go_enter Tryz.func65,Tryz.ntmps65
 go_wp2_with (go_at_call 124;refine Calls.later (Zu v 4 h0 (by omega) (by decide) (by decide) _) ?_;intro x)
 refine Jnx (Jjo v h0 h1 _) ?_
 rintro e w2 ⟨oa,cap,rfl,ho,hb⟩
 go_wp2_with fail
 refine Jnx (Jdh p l oa _ cap (be4 v) w2 ((HW.out.later x).below hb) (ho.reads (Jfa v)) (by simp[be4];omega)) ?_
 rintro e w3 ⟨rfl,hW3,hb3⟩
 go_wp2_with fail
 go_ret
 exact⟨rfl,hW3,((x.below.mono (Nat.le_of_lt HW.out.lt)).trans (hb.mono (Nat.le_of_lt (Jnz HW.out.lt x.below.size)))).trans hb3⟩
theorem bytes_any (p:Nat)(l:List Int)(w:World)(hw:Wr w p l)(hm:l.length≤1000000):
 Calls Tryz.prog 66 #[.pointer (some ⟨p,0,none⟩)] w (J9 w l):=by
 obtain⟨oa,cap,hc,ho⟩:=hw.row
 go_enter Tryz.func66,Tryz.ntmps66
 go_wp2_with fail
 refine Jnx (clone_any oa _ cap l w (ho.reads hw.byte) hm) ?_
 rintro e w2 ⟨oa',cap',rfl,ho',hb⟩
 go_wp2_with fail
 go_ret
 exact⟨_,_,rfl,ho',hb⟩
end Go.Proofs.YtkgjbipfhhjlpaaGreatDoor.Bits
namespace Go.Proofs.YtkgjbipfhhjlpaaGreatDoor.Bits
open Go.RowKit
theorem JaU (A:Option Addr)(m c:Nat)(l:List Int)(A2:Option Addr)(m2 c2:Nat)(l2:List Int)(w:World)(hr:Jj w A m c l)(hr2:Jj w A2 m2 c2 l2)(hm:m≤1000000)(hm2:m2≤1000000):
 Calls Tryz.prog 51 #[.slice A m c,.slice A2 m2 c2] w (J9 w (l++l2)):=by
 obtain rfl:=hr.len
 obtain rfl:=hr2.len
 go_enter Tryz.func51,Tryz.ntmps51
 go_wp2_with (at_builtin;refine JB.of ?_)
 refine JB.mk ?_
 refine JD _ rfl _ _ 22 rfl 5 w.heap.size Tryz.underlying22 infoU8 none 0 0 [] rfl (JI.nil _ _ _) A l.length c l rfl hr (by omega) (JnA _) ?_
 intro oa' cap' w' ho hg hd
 simp only[Nat.zero_add,List.nil_append] at ho⊢
 have hb:Below w.heap.size w w':=Below.grown (Jny _ _) hg (JnA _) (fun k hk=>by simp at hk)
 clear hg hd
 go_wp2_with (at_builtin;refine JB.of ?_)
 refine JB.mk ?_
 refine JD _ rfl _ _ 22 rfl 5 w.heap.size Tryz.underlying22 infoU8 oa' l.length cap' _ rfl ho A2 l2.length c2 l2 rfl (hr2.below hb) (by omega) hb.size ?_
 intro oa'' cap'' w'' ho2 hg hd
 rw[←List.map_append] at ho2
 have hb2:Below w.heap.size w w'':=Jnm hb ho (JnA _) hg hb.size
 clear hg hd
 go_wp2_with fail
 go_ret
 exact .mk ho2 (by rw[List.length_append]) hb2
def numAt (l:List Int)(at_ size:Nat):Int:=JdL ((l.drop at_).take size)
theorem JdZ (l:List Int)(i k:Nat)(h:i+k<l.length):(l.drop i).take (k+1)=(l.drop i).take k++[l.getD (i+k) 0]:=by
 rw[JaN _ _ (by rw[List.length_drop];omega)]
 simp[List.getD_eq_getElem?_getD,List.getElem?_drop]
theorem numAt_snoc (l:List Int)(i k:Nat)(h:i+k<l.length):numAt l i (k+1)=numAt l i k*256+l.getD (i+k) 0:=by
 unfold numAt;rw[JdZ l i k h,Jb1]
end Go.Proofs.YtkgjbipfhhjlpaaGreatDoor.Bits
namespace Go.Proofs.YtkgjbipfhhjlpaaGreatDoor.Bits
open Go.RowKit
theorem get_ok (oa:Option Addr)(n cap:Nat)(l:List Int)(i sz:Nat)(w:World)(hr:Jj w oa n cap l)(h1:1≤sz)(h8:sz≤8)(hle:i+sz≤n)(hn:n≤1000000):
 Calls Tryz.prog 81 #[.slice oa n cap,.int .i64 i,.int .i64 sz] w (Jk w (.tuple #[.int .u64 (numAt l i sz),.int .i64 0])):=by
 have HR:=Jnv hr
 clear hr
 have hrt:JR sz=true:=by simp[JR];omega
 have hcap:=HR.out.le
 have hcut:∀w,(Instr.slice 22 (.slice oa n cap) (some (.int .i64 (i:Int))) (some (.int .i64 ((i:Int)+sz))) none).run Tryz.prog w=.ok (.slice (Jp oa i cap 1) sz (cap-i)) w:=fun w=>by
  have:=Qm (P:=Tryz.prog) 22 oa n cap 1 elemBytes sizeBytes i (i+sz) i ((i:Int)+sz) rfl (by omega) (by omega) (by omega) w
  rwa [show i+sz-i=sz by omega] at this
 go_enter Tryz.func81,Tryz.ntmps81
 go_wp2_with (first
  |(go_at_call 142;refine Calls.later (Qt _ _) ?_;intro x;rw[hrt])
  |(go_at_call 143;refine Jnq (JjD (Jp oa i cap 1) sz (cap-i) ((l.drop i).take sz) _ ?_ h8) ?_))
 ·have:=((HR.out.later x).cut i (by omega)).take sz (by omega)
  exact this
 ·intro y
  go_wp2_with fail
  go_ret2
  exact .mk rfl y.below
theorem get_short (oa:Option Addr)(n cap:Nat)(i sz:Nat)(w:World)(h1:1≤sz)(h8:sz≤8)(hgt:n<i+sz)(hn:n≤1000000)(hi:i≤1000000):
 Calls Tryz.prog 81 #[.slice oa n cap,.int .i64 i,.int .i64 sz] w (Jk w (.tuple #[.int .u64 0,.int .i64 10])):=by
 have hrt:JR sz=true:=by simp[JR];omega
 by_cases hin:n<i
 ·have hd:decide ((i:Int)>n)=true:=by simp;omega
  go_enter Tryz.func81,Tryz.ntmps81
  go_wp2_with (go_at_call 142;refine Calls.later (Qt _ _) ?_;intro x;rw[hrt])
  go_ret2
  exact .mk rfl x.below
 ·have hd:decide ((i:Int)>n)=false:=by simp;omega
  have hd2:decide ((n:Int)-i<sz)=true:=by simp;omega
  go_enter Tryz.func81,Tryz.ntmps81
  go_wp2_with (go_at_call 142;refine Calls.later (Qt _ _) ?_;intro x;rw[hrt])
  go_ret2
  exact .mk rfl x.below
structure Rd (w:World)(b p:Nat)(l:List Int)(i:Nat):Prop where
 row:∃oa cap,w.cell? ⟨p,0,none⟩=some (.slice oa l.length cap)∧Jj w oa l.length cap l∧∀a,oa=some a→b≤a.block∧a.block<p
 pos:w.cell? ⟨p,1,none⟩=some (.int .i64 (i:Int))
 free:∀j,w.frozen? ⟨p,j,none⟩=false
 lt:p<w.heap.size
theorem Rd.below {w w':World}{b p:Nat}{l:List Int}{i:Nat}(h:Rd w b p l i)(hb:Below w.heap.size w w'):Rd w' b p l i:=by
 obtain⟨oa,cap,hc,hr,ha⟩:=h.row
 exact⟨⟨oa,cap,(hb.cell (p:=⟨p,0,none⟩) h.lt).trans hc,hr.below hb,ha⟩,(hb.cell (p:=⟨p,1,none⟩) h.lt).trans h.pos,fun j=>(hb.frozen (p:=⟨p,j,none⟩) h.lt).trans (h.free j),Jnz h.lt hb.size⟩
theorem Rd.later {w:World}{b p:Nat}{l:List Int}{i:Nat}(h:Rd w b p l i)(x:JC w):Rd x.world b p l i:=h.below x.below
theorem Rd.step {w:World}{b p:Nat}{l:List Int}{i:Nat}(h:Rd w b p l i)(k:Nat):Rd (w.setCell ⟨p,1,none⟩ (.int .i64 (k:Int))) b p l k:=by
 obtain⟨oa,cap,hc,hr,ha⟩:=h.row
 refine⟨⟨oa,cap,?_,hr.other (fun a e=>by have:=(ha a e).2;simp only;omega) _,ha⟩,World.cell?_setCell_same _ _ _ h.pos,fun j=>?_,by simpa using h.lt⟩
 ·rw[World.cell?_setCell_other _ _ _ _ (by simp)];exact hc
 ·rw[World.frozen?_setCell];exact h.free j
def JjE (w:World)(l:List Int):Ending→World→Prop:=fun e w'=>∃p,e=.returned (.pointer (some ⟨p,0,none⟩))∧w.heap.size≤p∧Rd w' w.heap.size p l 0∧Below w.heap.size w w'
theorem Jfb (oa:Option Addr)(n cap:Nat)(l:List Int)(w:World)(hr:Jj w oa n cap l)(hb:n≤1000000):Calls Tryz.prog 137 #[.slice oa n cap] w (JjE w l):=by
 have HB:=hr.byte
 have HB:=Jnv HB
 go_enter Tryz.func137,Tryz.ntmps137
 go_wp2_with fail
 refine Jnx (clone_any oa n cap l _ hr hb) ?_
 rintro e w2 ⟨oa',cap',rfl,ho,hb2⟩
 go_wp2_with fail
 go_ret
 have hsz:=hb2.size
 have hrd:=(ho.reads HB.out).alloc (.cells #[.slice oa' l.length cap',.int .i64 0] 282)
 refine⟨w2.heap.size,rfl,hb2.size,⟨⟨oa',cap',by go_cell,hrd,fun a ha=>ho.lt ha⟩,by go_cell,fun j=>by go_cell,by simp⟩,hb2.alloc hb2.size _⟩
end Go.Proofs.YtkgjbipfhhjlpaaGreatDoor.Bits
namespace Go.Proofs.YtkgjbipfhhjlpaaGreatDoor
section
open Go.RowKit
theorem QM (l:List Int)(i:Nat)(h:i+2≤l.length):Bits.numAt l i 2=w2 l i:=by
 rw[Bits.numAt_snoc l i 1 (by omega),Bits.numAt_snoc l i 0 (by omega)]
 unfold w2
 rw[show Bits.numAt l i 0=0 from rfl]
 rw[Nat.add_zero];omega
theorem Jcf (l:List Int)(i:Nat)(h:i+4≤l.length):Bits.numAt l i 4=w4 l i:=by
 rw[Bits.numAt_snoc l i 3 (by omega),Bits.numAt_snoc l i 2 (by omega),QM l i (by omega)]
 unfold w4 w2
 rw[show i+2+1=i+3 from rfl]
 omega
theorem Jhc (f k:Nat)(hf:f<65536)(hk:k<16):bits .and .u16 (f:Int) ((2^k:Nat):Int)=if f/2^k%2=1 then ((2^k:Nat):Int) else 0:=by
 have h2:2^k<65536:=Jnz (Nat.pow_lt_pow_right (by omega) hk) (by decide)
 have hk2:f.testBit k=decide (f/2^k%2=1):=Nat.testBit_eq_decide_div_mod_eq
 rw[u16_and_nat f (2^k) hf h2]
 by_cases h:f/2^k%2=1
 ·rw[if_pos h]
  congr 1
  apply Nat.eq_of_testBit_eq
  intro i
  rw[Nat.testBit_and,Nat.testBit_two_pow]
  by_cases e:k=i
  ·subst e;rw[hk2,decide_eq_true h];rfl
  ·rw[decide_eq_false e,Bool.and_false]
 ·rw[if_neg h,show f &&& 2^k=0 from ?_]
  ·rfl
  apply Nat.eq_of_testBit_eq
  intro i
  rw[Nat.testBit_and,Nat.testBit_two_pow,Nat.zero_testBit]
  by_cases e:k=i
  ·subst e;rw[hk2,decide_eq_false h];rfl
  ·rw[decide_eq_false e,Bool.and_false]
theorem JlL (x:Nat)(h:x<256):bits .and .u8 (x:Int) 15=((x%16:Nat):Int):=by
 have:=u8_and_nat x 15 h (by omega)
 rw[show(15:Nat)=2^4-1 from rfl,Nat.and_two_pow_sub_one_eq_mod] at this
 exact this
theorem JjF (x:Nat)(h:x<65536):bits .and .u16 (x:Int) 8191=((x%8192:Nat):Int):=by
 have:=u16_and_nat x 8191 h (by omega)
 rw[show(8191:Nat)=2^13-1 from rfl,Nat.and_two_pow_sub_one_eq_mod] at this
 exact this
theorem Jfc (oa:Option Addr)(n cap:Nat)(l:List Int)(i:Nat)(w:World)(hr:Jj w oa n cap l)(hle:i+2≤n)(hn:n≤1000000):
 Calls Tryz.prog 104 #[.slice oa n cap,.int .i64 (i:Int)] w (Jk w (.int .u16 (w2 l i))):=by
 have HG:=Jnv (Bits.get_ok oa n cap l i 2 w hr (by omega) (by omega) hle hn)
 rw[QM l i (by have:=hr.len;omega)] at HG
 have hb:=Zd hr.byte i
 clear hr
 generalize w2 l i=v at*
 go_enter Tryz.func104,Tryz.ntmps104
 go_wp2_with fail
 refine Calls.later HG.out ?_
 intro x
 go_wp2_with fail
 go_ret
 exact .mk rfl x.below
theorem X5 {P:Program}{fn:Func}{p q r:Tmp}{ty:TypeId}(h:fn.results=#[.cell p ty,.tmp q,.tmp r])(tmps:Array Value)(w:World)(b n:Nat)(d:TypeDesc)(v u:Value)
 (hu:P.underlying ty=some d)(hd:(match d with| .struct _| .array _ _=>true|_=>false)=true)(hi:(P.info? ty).map (·.size)=some n)
 (hp:tmps.getD p undef=.pointer (some ⟨b,0,none⟩))(hq:tmps.getD q undef=v)(hr:tmps.getD r undef=u)(cs:Array Value)(hc:Jc w b 0 n=cs)(hs:cs.size=n):
 (results fn tmps).run P w=.ok (.tuple #[.agg cs,v,u]) w:=by
 subst hc
 have hp':tmps[p]?.getD undef=.pointer (some ⟨b,0,none⟩):=by simpa using hp
 have hq':tmps[q]?.getD undef=v:=by simpa using hq
 have hr':tmps[r]?.getD undef=u:=by simpa using hr
 simp[results,h,hp',hq',hr',asAddr,Qp w b 0 n ty d hu hd hi hs]
def ipZ:Array Value:=(Job false false)
def Jlh (err:Int):Value:=.tuple #[.agg ipZ,.int .i64 0,.int .i64 err]
theorem JkG {w w':World}{err:Int}{tmps:Array Value}(b:Nat)(hp:tmps.getD 2 undef=.pointer (some ⟨b,0,none⟩))(h3:tmps.getD 3 undef=.int .i64 0)(h4:tmps.getD 4 undef=.int .i64 err)(hc:w'.heap[b]? =some (.cells ipZ 113 (0,0)))(hb:Below w.heap.size w w'):
 bodyPost Tryz.prog Tryz.f52 (Jk w (Jlh err)) .ret { tmps:=tmps,defers:=[] } w':=
 bodyPost_ret (v:=Jlh err) (X5 rfl _ _ b 17 _ _ _ Tryz.underlying113 rfl JeY hp h3 h4 ipZ (by rw[Jn _ _ _ _ _ _ _ hc];rfl) rfl) rfl (.mk rfl hb)
theorem Jfd (oa:Option Addr)(n cap:Nat)(w:World)(h:n<20):Calls Tryz.prog 52 #[.slice oa n cap] w (Jk w (Jlh 10)):=by
 have h':(n:Int)<20:=by omega
 have HB:=Jnv (Below.all (Jny w.heap.size w) (.cells ipZ 113))
 have HC:Hid ((w.alloc (.cells ipZ 113)).heap[w.heap.size]? =some (.cells ipZ 113 (0,0))):=Jnv (heap_alloc_new w _)
 unfold Jlh
 unfold ipZ at*
 go_enter Tryz.func52,Tryz.ntmps52
 go_wp2_with fail
 exact JkG w.heap.size rfl rfl rfl HC.out HB.out
theorem Jfe {P:Program}{o:Oper}{a:Act}{C:World→Prop}{w:World}{v:Value}(h:(execOp a.eval o).run P w=.ok (.value v) w):o.quietAt P a C w v:=by
 unfold Oper.quietAt
 rw[h]
 exact⟨rfl,rfl⟩
theorem JaV {P:Program}(t e:TypeId)(ht:P.underlying t=some (.array 4 e))(a:Option Addr)(n c:Nat)(h:4≤n)(w:World):(Instr.arrayAt t (.slice a n c)).run P w=.ok (.pointer a) w:=by
 have h':¬n<4:=by omega
 simp[Instr.arrayAt,Sem.run_bind,run_underlying ht,h',Result.andThen]
def Jff (f:Int)(k:Int):Bool:=decide (f/k%2=1)
def ipA (l:List Int)(oa:Option Addr)(cap:Nat):Array Value:=#[.int .u8 (l.getD 1 0),.int .u16 (w2 l 2),.int .u16 (w2 l 4),.bool (Jff (w2 l 6) 16384),.bool (Jff (w2 l 6) 8192),.int .u16 (w2 l 6%8192),.int .u8 (l.getD 8 0),.int .u8 (l.getD 9 0),
 .int .u8 (l.getD 12 0),.int .u8 (l.getD 13 0),.int .u8 (l.getD 14 0),.int .u8 (l.getD 15 0),.int .u8 (l.getD 16 0),.int .u8 (l.getD 17 0),.int .u8 (l.getD 18 0),.int .u8 (l.getD 19 0),.slice oa (ipHl l-20) cap]
def Jdi (w:World)(l:List Int):Ending→World→Prop:=fun e w'=>(Q4 l≠0∧e=.returned (Jlh (Q4 l))∧Below w.heap.size w w')∨
 (Q4 l=0∧∃oa cap,e=.returned (.tuple #[.agg (ipA l oa cap),.int .i64 (ipHl l:Int),.int .i64 0])∧JI w' w.heap.size 1 oa (ipHl l-20) cap (((l.drop 20).take (ipHl l-20)).map (.int .u8))∧Below w.heap.size w w')
theorem Jdi.err {w w':World}{l:List Int}{v:Ending}{err:Int}(h:Jk w (Jlh err) v w')(he:Q4 l=err)(h0:err≠0):Jdi w l v w':=by
 subst he
 exact .inl ⟨h0,h.1,h.2⟩
theorem ZK {w w':World}{l:List Int}{err:Int}{tmps:Array Value}(b:Nat)(he:Q4 l=err)(h0:err≠0)(hp:tmps.getD 2 undef=.pointer (some ⟨b,0,none⟩))(h3:tmps.getD 3 undef=.int .i64 0)(h4:tmps.getD 4 undef=.int .i64 err)(hc:w'.heap[b]? =some (.cells ipZ 113 (0,0)))(hb:Below w.heap.size w w'):
 bodyPost Tryz.prog Tryz.f52 (Jdi w l) .ret { tmps:=tmps,defers:=[] } w':=
 bodyPost_ret (v:=Jlh err) (X5 rfl _ _ b 17 _ _ _ Tryz.underlying113 rfl JeY hp h3 h4 ipZ (by rw[Jn _ _ _ _ _ _ _ hc];rfl) rfl) rfl (.err (.mk rfl hb) he h0)
theorem JjG {w w':World}{l:List Int}{cs:Array Value}{nv:Int}{tmps:Array Value}(b:Nat)(hp:tmps.getD 2 undef=.pointer (some ⟨b,0,none⟩))(h3:tmps.getD 3 undef=.int .i64 nv)(h4:tmps.getD 4 undef=.int .i64 0)(hc:Jc w' b 0 17=cs)(hs:cs.size=17)
 (hpost:Jdi w l (.returned (.tuple #[.agg cs,.int .i64 nv,.int .i64 0])) w'):bodyPost Tryz.prog Tryz.f52 (Jdi w l) .ret { tmps:=tmps,defers:=[] } w':=
 bodyPost_ret (v:=.tuple #[.agg cs,.int .i64 nv,.int .i64 0]) (X5 rfl _ _ b 17 _ _ _ Tryz.underlying113 rfl JeY hp h3 h4 cs hc hs) rfl hpost
attribute [local go_sem ↓] Go.wp_at_zero Go.wp_at_succ in
theorem Jgr (g off n cap:Nat)(l:List Int)(w:World)(hr:Jj w (some ⟨g,off,none⟩) n cap l)(hn:20≤n)(hn2:n≤100000):
 Calls Tryz.prog 52 #[.slice (some ⟨g,off,none⟩) n cap] w (Jdi w l):=by
 have hlen:=hr.len
 have HR:=Jnv hr
 obtain⟨g',off',hop,hgl,hc⟩:=hr.here (by omega)
 cases hop
 have hc0:=hc 0 (by omega)
 have hc1:=hc 1 (by omega)
 have hc8:=hc 8 (by omega)
 have hc9:=hc 9 (by omega)
 have hx0:=hr.getD 0
 rw[Nat.add_zero] at hc0
 obtain⟨x0,e0⟩:∃x:Nat,l.getD 0 0=x:=⟨(l.getD 0 0).toNat,by omega⟩
 rw[e0] at hc0 hx0
 have hx0':x0<256:=by omega
 have HW6:=Jnv (fun(w':World) (h:Jj w' (some ⟨g,off,none⟩) n cap l)=>Jfc (some ⟨g,off,none⟩) n cap l 6 w' h (by omega) (by omega))
 have hand:=JlL x0 hx0'
 have hlo:x0%16<16:=by omega
 have HHL:Hid (ipHl l=x0%16*4):=Jnv (by unfold ipHl;rw[e0];omega)
 have HE0:Hid (l.getD 0 0=x0):=Jnv e0
 have HB:=Jnv (Below.all (Jny w.heap.size w) (.cells ipZ 113))
 have HC:Hid ((w.alloc (.cells ipZ 113)).heap[w.heap.size]? =some (.cells ipZ 113 (0,0))):=Jnv (heap_alloc_new w _)
 have h20:¬((n:Int)<20):=by omega
 clear hr e0 hc
 generalize x0%16=lo at*
 unfold ipZ at HB HC
 go_enter Tryz.func52,Tryz.ntmps52
 have HER:Hid (Q4 l=if x0/16≠4 then 50 else if lo*4<20 then 51 else if n<lo*4 then 10 else if 32768≤w2 l 6∨w2 l 2<((lo*4:Nat):Int) then 51 else if Zr (l.take (lo*4))=false then 52 else 0):=Jnv (by
  unfold Q4
  rw[HHL.out,HE0.out,hlen,if_neg (show¬n<20 by omega)]
  by_cases h:x0/16=4
  ·rw[if_neg (show¬(x0:Int)/16≠4 by omega),if_neg (show¬x0/16≠4 by omega)]
  ·rw[if_pos (show(x0:Int)/16≠4 by omega),if_pos h])
 by_cases hv:x0/16=4
 rotate_left
 ·have hv':¬((x0:Int)/16=4):=by omega
  have hv2:(((x0:Int)/16)==4)=false:=by simp;omega
  have HE:Hid (Q4 l=50):=Jnv (by rw[HER.out,if_pos hv])
  clear HER
  go_wp2_with fail
  exact ZK w.heap.size HE.out (by decide) rfl rfl rfl HC.out HB.out
 have HER1:Hid (Q4 l=if lo*4<20 then 51 else if n<lo*4 then 10 else if 32768≤w2 l 6∨w2 l 2<((lo*4:Nat):Int) then 51 else if Zr (l.take (lo*4))=false then 52 else 0):=Jnv (by rw[HER.out,if_neg (by omega)])
 clear HER
 have hv':(x0:Int)/16=4:=by omega
 by_cases h51:lo*4<20
 ·have h51':(lo:Int)*4<20:=by omega
  have HE:Hid (Q4 l=51):=Jnv (by rw[HER1.out,if_pos h51])
  clear HER1
  go_wp2_with fail
  exact ZK w.heap.size HE.out (by decide) rfl rfl rfl HC.out HB.out
 have HER2:Hid (Q4 l=if n<lo*4 then 10 else if 32768≤w2 l 6∨w2 l 2<((lo*4:Nat):Int) then 51 else if Zr (l.take (lo*4))=false then 52 else 0):=Jnv (by rw[HER1.out,if_neg h51])
 clear HER1
 have h51':¬((lo:Int)*4<20):=by omega
 by_cases hln:n<lo*4
 ·have hln':(n:Int)<(lo:Int)*4:=by omega
  have HE:Hid (Q4 l=10):=Jnv (by rw[HER2.out,if_pos hln])
  clear HER2
  go_wp2_with fail
  exact ZK w.heap.size HE.out (by decide) rfl rfl rfl HC.out HB.out
 have HER3:Hid (Q4 l=if 32768≤w2 l 6∨w2 l 2<((lo*4:Nat):Int) then 51 else if Zr (l.take (lo*4))=false then 52 else 0):=Jnv (by rw[HER2.out,if_neg hln])
 clear HER2
 have hln':¬((n:Int)<(lo:Int)*4):=by omega
 go_wp2_with fail
 have HR1:=Jnv (HR.out.alloc (.cells (Job false false) 113))
 generalize w.alloc (.cells (Job false false) 113)=w1 at*
 refine Jnx (HW6.out _ HR1.out) ?_
 rintro e w2' ⟨rfl,hb2⟩
 have HB2:=Jnv (Jno HB.out hb2)
 have HR2:=Jnv (HR1.out.below hb2)
 have HC2:Hid (w2'.heap[w.heap.size]? =some (.cells ipZ 113 (0,0))):=Jnv ((hb2.block _ (Jnw HC.out).1).trans HC.out)
 clear hb2 HB HC HR1 HW6 hand
 go_wp2_with fail
 have hle:=HR.out.le
 obtain⟨y1,hy1⟩:∃y,l.getD 1 0=y:=⟨_,rfl⟩
 have HY1:=Jnv hy1
 obtain⟨y8,hy8⟩:∃y,l.getD 8 0=y:=⟨_,rfl⟩
 have HY8:=Jnv hy8
 obtain⟨y9,hy9⟩:∃y,l.getD 9 0=y:=⟨_,rfl⟩
 have HY9:=Jnv hy9
 obtain⟨y12,hy12⟩:∃y,l.getD 12 0=y:=⟨_,rfl⟩
 have HY12:=Jnv hy12
 obtain⟨y13,hy13⟩:∃y,l.getD 13 0=y:=⟨_,rfl⟩
 have HY13:=Jnv hy13
 obtain⟨y14,hy14⟩:∃y,l.getD 14 0=y:=⟨_,rfl⟩
 have HY14:=Jnv hy14
 obtain⟨y15,hy15⟩:∃y,l.getD 15 0=y:=⟨_,rfl⟩
 have HY15:=Jnv hy15
 obtain⟨y16,hy16⟩:∃y,l.getD 16 0=y:=⟨_,rfl⟩
 have HY16:=Jnv hy16
 obtain⟨y17,hy17⟩:∃y,l.getD 17 0=y:=⟨_,rfl⟩
 have HY17:=Jnv hy17
 obtain⟨y18,hy18⟩:∃y,l.getD 18 0=y:=⟨_,rfl⟩
 have HY18:=Jnv hy18
 obtain⟨y19,hy19⟩:∃y,l.getD 19 0=y:=⟨_,rfl⟩
 have HY19:=Jnv hy19
 obtain⟨LO,hLO⟩:∃L,(l.drop 20).take (lo*4-20)=L:=⟨_,rfl⟩
 have HLO:=Jnv hLO
 have hLOn:LO.length=lo*4-20:=by rw[←hLO,List.length_take,List.length_drop];omega
 obtain⟨w2a,hw2a⟩:∃y,w2 l 2=y:=⟨_,rfl⟩
 obtain⟨w4a,hw4a⟩:∃y,w2 l 4=y:=⟨_,rfl⟩
 have HW2a:=Jnv hw2a
 have HW4a:=Jnv hw4a
 have hbd6:=Zd HR.out.byte 6
 obtain⟨f,hf⟩:∃f:Nat,w2 l 6=f:=⟨(w2 l 6).toNat,by omega⟩
 rw[hf] at hbd6
 have hf16:f<65536:=by omega
 have HFL:=Jnv hf
 have HG2:Hid (g<w2'.heap.size):=Jnv (Jnz hgl HB2.out.size)
 have HSB:Hid (∀w':World,Below w2'.heap.size w2' w'→(fun w'=>(w'.cell? ⟨g,off+1,none⟩=some (.int .u8 y1)∧w'.cell? ⟨g,off+8,none⟩=some (.int .u8 y8)∧w'.cell? ⟨g,off+9,none⟩=some (.int .u8 y9)∧Jc w' g (off+12) 4=(#[y12,y13,y14,y15]:Array Value)∧Jc w' g (off+16) 4=(#[y16,y17,y18,y19]:Array Value))∧Below w2'.heap.size w2' w') w'):=Jnv (fun w' hb=>by
  obtain⟨g',off',hop,-,hc⟩:=(HR2.out.below hb).here (by omega)
  cases hop
  have c:=fun(k:Nat) (y:Int) (h:k<n) (e:l.getD k 0=y)=>e▸hc k h
  exact⟨⟨c 1 _ (by omega) hy1,c 8 _ (by omega) hy8,c 9 _ (by omega) hy9,JbC (c 12 _ (by omega) hy12) (c 13 _ (by omega) hy13) (c 14 _ (by omega) hy14) (c 15 _ (by omega) hy15),JbC (c 16 _ (by omega) hy16) (c 17 _ (by omega) hy17) (c 18 _ (by omega) hy18) (c 19 _ (by omega) hy19)⟩,hb⟩)
 have HS0:=Jnv (HSB.out w2' (Jny _ _))
 have HWa:Hid (∀w':World,Jj w' (some ⟨g,off,none⟩) n cap l→Calls Tryz.prog 104 #[.slice (some ⟨g,off,none⟩) n cap,.int .i64 2] w' (Jk w' (.int .u16 w2a))):=Jnv fun w' h=>by rw[←hw2a];exact Jfc _ n cap l 2 w' h (by omega) (by omega)
 have HWb:Hid (∀w':World,Jj w' (some ⟨g,off,none⟩) n cap l→Calls Tryz.prog 104 #[.slice (some ⟨g,off,none⟩) n cap,.int .i64 4] w' (Jk w' (.int .u16 w4a))):=Jnv fun w' h=>by rw[←hw4a];exact Jfc _ n cap l 4 w' h (by omega) (by omega)
 have HCL:Hid (∀w':World,Jj w' (some ⟨g,off,none⟩) n cap l→Calls Tryz.prog 105 #[.slice (Jp (some ⟨g,off,none⟩) 20 cap 1) (lo*4-20) (cap-20)] w' (J9 w' LO)):=Jnv fun w' h=>by rw[←hLO];exact Bits.clone_any _ _ _ _ w' ((h.cut 20 (by omega)).take (lo*4-20) (by omega)) (by omega)
 have hcut12:∀w,(Instr.slice 22 (.slice (some ⟨g,off,none⟩) n cap) (some (.int .i64 12)) none none).run Tryz.prog w=.ok (.slice (some ⟨g,off+12,none⟩) (n-12) (cap-12)) w:=fun w=>by
  have:=Jbf (P:=Tryz.prog) 22 (some ⟨g,off,none⟩) n cap 1 Bits.elemBytes Bits.sizeBytes 12 12 rfl (by omega) w
  rwa [show Jp (some ⟨g,off,none⟩) 12 cap 1=some ⟨g,off+12,none⟩ by unfold Jp;rw[if_neg (by omega)];rfl] at this
 have hcut16:∀w,(Instr.slice 22 (.slice (some ⟨g,off,none⟩) n cap) (some (.int .i64 16)) none none).run Tryz.prog w=.ok (.slice (some ⟨g,off+16,none⟩) (n-16) (cap-16)) w:=fun w=>by
  have:=Jbf (P:=Tryz.prog) 22 (some ⟨g,off,none⟩) n cap 1 Bits.elemBytes Bits.sizeBytes 16 16 rfl (by omega) w
  rwa [show Jp (some ⟨g,off,none⟩) 16 cap 1=some ⟨g,off+16,none⟩ by unfold Jp;rw[if_neg (by omega)];rfl] at this
 have hcut20:∀w,(Instr.slice 22 (.slice (some ⟨g,off,none⟩) n cap) (some (.int .i64 20)) (some (.int .i64 ((lo:Int)*4))) none).run Tryz.prog w=.ok (.slice (Jp (some ⟨g,off,none⟩) 20 cap 1) (lo*4-20) (cap-20)) w:=fun w=>
  Qm (P:=Tryz.prog) 22 (some ⟨g,off,none⟩) n cap 1 Bits.elemBytes Bits.sizeBytes 20 (lo*4) 20 ((lo:Int)*4) rfl (by omega) (by omega) (by omega) w
 have harr12:=JaV (P:=Tryz.prog) 111 _ Tryz.underlying111 (some ⟨g,off+12,none⟩) (n-12) (cap-12) (by omega)
 have harr16:=JaV (P:=Tryz.prog) 111 _ Tryz.underlying111 (some ⟨g,off+16,none⟩) (n-16) (cap-16) (by omega)
 have hb14:=Jhc f 14 hf16 (by omega)
 have hb13:=Jhc f 13 hf16 (by omega)
 have hb15:=Jhc f 15 hf16 (by omega)
 have hfl:=JjF f hf16
 rw[show((2^14:Nat):Int)=16384 from rfl] at hb14
 rw[show((2^13:Nat):Int)=8192 from rfl] at hb13
 rw[show((2^15:Nat):Int)=32768 from rfl] at hb15
 have HP14:Hid (decide ((0:Int)<bits .and .u16 (f:Int) 16384)=Jff (w2 l 6) 16384):=Jnv (by
  rw[hb14,hf];unfold Jff
  by_cases h:f/2^14%2=1
  ·rw[if_pos h,decide_eq_true (by omega),decide_eq_true (by omega)]
  ·rw[if_neg h,decide_eq_false (by omega),decide_eq_false (by omega)])
 have HP13:Hid (decide ((0:Int)<bits .and .u16 (f:Int) 8192)=Jff (w2 l 6) 8192):=Jnv (by
  rw[hb13,hf];unfold Jff
  by_cases h:f/2^13%2=1
  ·rw[if_pos h,decide_eq_true (by omega),decide_eq_true (by omega)]
  ·rw[if_neg h,decide_eq_false (by omega),decide_eq_false (by omega)])
 have HP15:Hid (decide ((0:Int)<bits .and .u16 (f:Int) 32768)=decide (32768≤w2 l 6)):=Jnv (by
  rw[hb15,hf]
  by_cases h:f/2^15%2=1
  ·rw[if_pos h,decide_eq_true (by omega),decide_eq_true (by omega)]
  ·rw[if_neg h,decide_eq_false (by omega),decide_eq_false (by omega)])
 have HF13:Hid (((f%8192:Nat):Int)=w2 l 6%8192):=Jnv (by rw[hf];omega)
 rw[hf]
 clear hb14 hb13 hb15 hc1 hc8 hc9 hLO hw2a hw4a hy1 hy8 hy9 hy12 hy13 hy14 hy15 hy16 hy17 hy18 hy19
 generalize hd14:bits .and .u16 (f:Int) 16384=v14 at*
 generalize hd13:bits .and .u16 (f:Int) 8192=v13 at*
 generalize hd15:bits .and .u16 (f:Int) 32768=v15 at*
 generalize f%8192=fr at*
 have hdd14:=HP14.out
 have hdd13:=HP13.out
 generalize hbdf:Jff (w2 l 6) 16384=bdf at*
 generalize hbmf:Jff (w2 l 6) 8192=bmf at*
 have HBDF:=Jnv hbdf
 have HBMF:=Jnv hbmf
 clear hbdf hbmf
 have hi1:(1:Int)<n:=by omega
 have hi8:(8:Int)<n:=by omega
 have hi9:(9:Int)<n:=by omega
 have RSX:Jba (fun lo hi v w'=>∃ob cb,v=.slice ob LO.length cb∧JI w' lo 1 ob LO.length cb (LO.map (.int .u8))∧∀a,ob=some a→a.block<hi):=fun lo hi v w1 w2 h hh hb=>by
  obtain⟨ob,cb,e,ho,hl⟩:=h
  exact⟨ob,cb,e,ho.below hb,hl⟩
 refine Je6 32 (fun lo hi v w'=>∃ob cb,v=.slice ob LO.length cb∧JI w' lo 1 ob LO.length cb (LO.map (.int .u8))∧∀a,ob=some a→a.block<hi) (.cells (Job false false) 113) (fun v=>.agg (JnI y1 (.int .u16 w2a) (.int .u16 w4a) bdf bmf (.int .u16 (fr:Int)) y8 y9 y12 y13 y14 y15 y16 y17 y18 y19 v)) (by kernel_rfl) (by kernel_rfl) (by kernel_rfl) rfl rfl rfl rfl rfl rfl (by decide) (by decide) (by decide) (by intro cs b h;cases h) (by intro cs b h;cases h) (by kernel_rfl) (by kernel_rfl) (by kernel_rfl) RSX ⟨fun _=>rfl,fun _ _=>by kernel_rfl⟩ ?_
 apply Exists.intro
 refine⟨fun wx hbx=>?_,?_,?_,?_⟩
 ·obtain⟨⟨hk1,hk8,hk9,hk12,hk16⟩,-⟩:=HSB.out wx hbx
  have hgx:g<wx.heap.size:=Jnz HG2.out hbx.size
  have HX1:=Jnv (fun(x:JC wx)=>HWa.out x.world ((HR2.out.below hbx).later x))
  have HX2:=Jnv (fun(x:JC wx)=>HWb.out x.world ((HR2.out.below hbx).later x))
  simp only[List.take_succ_cons,List.take_zero]
  repeat go_big_quiet_step (fail)
  go_big_quiet_step ((go_at_call 104;exact JJ (HX1.out _)))
  repeat go_big_quiet_step (fail)
  go_big_quiet_step ((go_at_call 104;exact JJ (HX2.out _)))
  repeat go_big_quiet_step (fail)
  exact wpQuiet_nil rfl
 ·refine⟨rfl,fun w1 hb1=>.inr ⟨105,#[.slice (Jp (some ⟨g,off,none⟩) 20 cap 1) (lo*4-20) (cap-20)],by kernel_rfl,(HCL.out w1 (HR2.out.below hb1)).mono ?_⟩⟩
  rintro e wx ⟨ob,cb,rfl,ho,hb⟩
  exact⟨_,rfl,hb,ob,cb,rfl,ho,fun a ha=>(ho.lt ha).2⟩
 ·rintro lo2 hi2 v1 w3 ⟨ob,cb,rfl,-⟩ w1 hb1
  exact .inl ⟨rfl,fun wy hy=>Jfe (by kernel_rfl)⟩
 ·intro lo2 hi2 v1 gb wn hbn hlo hhi hgb hdis hRR hcb
  obtain⟨ob,cb,rfl,ho,hl⟩:=hRR
  have hrf:Jl wn gb 17=true:=by rw[Jd _ _ _ _ _ hcb];rfl
  rw[hLOn] at*
  have hW2:w.heap.size<w2'.heap.size:=(Jnw HC2.out).1
  have hHC:(wn.setRow gb (JnI y1 (.int .u16 w2a) (.int .u16 w4a) bdf bmf (.int .u16 (fr:Int)) y8 y9 y12 y13 y14 y15 y16 y17 y18 y19 (.slice ob (lo*4-20) cb))).heap[gb]? =some (.cells (JnI y1 (.int .u16 w2a) (.int .u16 w4a) bdf bmf (.int .u16 (fr:Int)) y8 y9 y12 y13 y14 y15 y16 y17 y18 y19 (.slice ob (lo*4-20) cb)) 113 (0,0)):=setRow_heap _ _ _ _ _ _ hcb
  have hHZ:(wn.setRow gb (JnI y1 (.int .u16 w2a) (.int .u16 w4a) bdf bmf (.int .u16 (fr:Int)) y8 y9 y12 y13 y14 y15 y16 y17 y18 y19 (.slice ob (lo*4-20) cb))).heap[w.heap.size]? =some (.cells ipZ 113 (0,0)):=(setRow_other _ gb _ _ (by omega)).trans ((hbn.block _ hW2).trans HC2.out)
  have HBM:Hid (Below w.heap.size w (wn.setRow gb (JnI y1 (.int .u16 w2a) (.int .u16 w4a) bdf bmf (.int .u16 (fr:Int)) y8 y9 y12 y13 y14 y15 y16 y17 y18 y19 (.slice ob (lo*4-20) cb)))):=Jnv (below_setRow (Jno HB2.out hbn) (by omega) _)
  have HBM2:Hid (Below w2'.heap.size w2' (wn.setRow gb (JnI y1 (.int .u16 w2a) (.int .u16 w4a) bdf bmf (.int .u16 (fr:Int)) y8 y9 y12 y13 y14 y15 y16 y17 y18 y19 (.slice ob (lo*4-20) cb)))):=Jnv (below_setRow hbn (by omega) _)
  have HOM:Hid (JI (wn.setRow gb (JnI y1 (.int .u16 w2a) (.int .u16 w4a) bdf bmf (.int .u16 (fr:Int)) y8 y9 y12 y13 y14 y15 y16 y17 y18 y19 (.slice ob (lo*4-20) cb))) lo2 1 ob (lo*4-20) cb (LO.map (.int .u8))):=Jnv (ho.keep (by simp) fun a ha=>setRow_other _ gb _ _ (by have h1:=(ho.lt ha).1;have h2:=hl a ha;omega))
  have hcl1:(wn.setRow gb (JnI y1 (.int .u16 w2a) (.int .u16 w4a) bdf bmf (.int .u16 (fr:Int)) y8 y9 y12 y13 y14 y15 y16 y17 y18 y19 (.slice ob (lo*4-20) cb))).cell? ⟨gb,1,none⟩=some (.int .u16 w2a):=by rw[cell_of_row _ _ _ _ _ _ hHC];rfl
  have hrz:Jl (wn.setRow gb (JnI y1 (.int .u16 w2a) (.int .u16 w4a) bdf bmf (.int .u16 (fr:Int)) y8 y9 y12 y13 y14 y15 y16 y17 y18 y19 (.slice ob (lo*4-20) cb))) w.heap.size 17=true:=by rw[Jd _ _ _ _ _ hHZ];rfl
  have hpt:Jc (wn.setRow gb (JnI y1 (.int .u16 w2a) (.int .u16 w4a) bdf bmf (.int .u16 (fr:Int)) y8 y9 y12 y13 y14 y15 y16 y17 y18 y19 (.slice ob (lo*4-20) cb))) gb 0 17=(JnI y1 (.int .u16 w2a) (.int .u16 w4a) bdf bmf (.int .u16 (fr:Int)) y8 y9 y12 y13 y14 y15 y16 y17 y18 y19 (.slice ob (lo*4-20) cb):Array Value):=by rw[Jn _ _ _ _ _ _ _ hHC];simp
  have HHC:=Jnv hHC
  have HHZ:=Jnv hHZ
  have hw2b:0≤w2a∧w2a<65536:=by have:=Zd HR2.out.byte 2;rw[HW2a.out] at this;exact this
  clear hHC hHZ ho hl
  simp only[List.drop_succ_cons,List.drop_zero]
  simp only[Act.put,QQ,List.setIfInBounds_toArray,List.set_cons_succ,List.set_cons_zero]
  by_cases hA:32768≤w2 l 6
  ·have hv15:(0:Int)<v15:=by have:=HP15.out;rw[decide_eq_true hA] at this;exact of_decide_eq_true this
   have HE:Hid (Q4 l=51):=Jnv (by rw[HER3.out,if_pos (.inl hA)])
   go_wp2_with fail
   exact ZK w.heap.size HE.out (by decide) rfl rfl rfl (setRow_heap _ _ _ _ _ _ HHZ.out) (below_setRow HBM.out (JnA _) _)
  ·have hv15:¬(0:Int)<v15:=by have:=HP15.out;rw[decide_eq_false hA] at this;exact of_decide_eq_false this
   have hd15:decide ((0:Int)<v15)=false:=decide_eq_false hv15
   by_cases hBB:w2a<(lo:Int)*4
   ·have HE:Hid (Q4 l=51):=Jnv (by rw[HER3.out,if_pos (.inr (by rw[HW2a.out];omega))])
    go_wp2_with fail
    exact ZK w.heap.size HE.out (by decide) rfl rfl rfl (setRow_heap _ _ _ _ _ _ HHZ.out) (below_setRow HBM.out (JnA _) _)
   ·have HE3:Hid (Q4 l=if Zr (l.take (lo*4))=false then 52 else 0):=Jnv (by rw[HER3.out,if_neg (by rw[HW2a.out];omega)])
    have HRU:Hid (QL ((wn.setRow gb (JnI y1 (.int .u16 w2a) (.int .u16 w4a) bdf bmf (.int .u16 (fr:Int)) y8 y9 y12 y13 y14 y15 y16 y17 y18 y19 (.slice ob (lo*4-20) cb))).alloc (.cells #[.slice (some ⟨g,off,none⟩) (lo*4) cap] 22)) (((wn.setRow gb (JnI y1 (.int .u16 w2a) (.int .u16 w4a) bdf bmf (.int .u16 (fr:Int)) y8 y9 y12 y13 y14 y15 y16 y17 y18 y19 (.slice ob (lo*4-20) cb))).alloc (.cells #[.slice (some ⟨g,off,none⟩) (lo*4) cap] 22)).heap.size) wn.heap.size 1 [l.take (lo*4)]):=Jnv (by
     have hrl:=((HR2.out.below HBM2.out).alloc (.cells #[.slice (some ⟨g,off,none⟩) (lo*4) cap] 22)).take (lo*4) (by omega)
     refine⟨rfl,by simp,fun j hj=>?_⟩
     obtain rfl:j=0:=by simpa using hj
     exact⟨some ⟨g,off,none⟩,lo*4,cap,by go_cell,hrl,by omega,fun a ha=>by cases ha;have:=HG2.out;have:=HBM2.out.size;simp only[World.size_alloc];omega⟩)
    have HWH:=Jnv (JjB wn.heap.size 1 1 _ _ HRU.out (by omega))
    rw[show[l.take (lo*4)].flatten=l.take (lo*4) by simp] at HWH
    have HBA:Hid (Below w.heap.size w ((wn.setRow gb (JnI y1 (.int .u16 w2a) (.int .u16 w4a) bdf bmf (.int .u16 (fr:Int)) y8 y9 y12 y13 y14 y15 y16 y17 y18 y19 (.slice ob (lo*4-20) cb))).alloc (.cells #[.slice (some ⟨g,off,none⟩) (lo*4) cap] 22))):=Jnv (Below.all HBM.out _)
    have HHCA:Hid (((wn.setRow gb (JnI y1 (.int .u16 w2a) (.int .u16 w4a) bdf bmf (.int .u16 (fr:Int)) y8 y9 y12 y13 y14 y15 y16 y17 y18 y19 (.slice ob (lo*4-20) cb))).alloc (.cells #[.slice (some ⟨g,off,none⟩) (lo*4) cap] 22)).heap[gb]? =some (.cells (JnI y1 (.int .u16 w2a) (.int .u16 w4a) bdf bmf (.int .u16 (fr:Int)) y8 y9 y12 y13 y14 y15 y16 y17 y18 y19 (.slice ob (lo*4-20) cb)) 113 (0,0))):=Jnv ((heap_alloc_old _ _ (Jnw HHC.out).1).trans HHC.out)
    have HHZA:Hid (((wn.setRow gb (JnI y1 (.int .u16 w2a) (.int .u16 w4a) bdf bmf (.int .u16 (fr:Int)) y8 y9 y12 y13 y14 y15 y16 y17 y18 y19 (.slice ob (lo*4-20) cb))).alloc (.cells #[.slice (some ⟨g,off,none⟩) (lo*4) cap] 22)).heap[w.heap.size]? =some (.cells ipZ 113 (0,0))):=Jnv ((heap_alloc_old _ _ (Jnw HHZ.out).1).trans HHZ.out)
    have HOA:=Jnv (HOM.out.alloc (.cells #[.slice (some ⟨g,off,none⟩) (lo*4) cap] 22))
    go_wp2_with fail
    generalize ((wn.setRow gb (JnI y1 (.int .u16 w2a) (.int .u16 w4a) bdf bmf (.int .u16 (fr:Int)) y8 y9 y12 y13 y14 y15 y16 y17 y18 y19 (.slice ob (lo*4-20) cb))).alloc (.cells #[.slice (some ⟨g,off,none⟩) (lo*4) cap] 22))=wa at*
    refine Jnx HWH.out ?_
    rintro e wb ⟨rfl,hbb⟩
    have HBB:=Jnv (Jno HBA.out hbb)
    have HHCB:Hid (wb.heap[gb]? =some (.cells (JnI y1 (.int .u16 w2a) (.int .u16 w4a) bdf bmf (.int .u16 (fr:Int)) y8 y9 y12 y13 y14 y15 y16 y17 y18 y19 (.slice ob (lo*4-20) cb)) 113 (0,0))):=Jnv ((hbb.block _ (Jnw HHCA.out).1).trans HHCA.out)
    have HHZB:Hid (wb.heap[w.heap.size]? =some (.cells ipZ 113 (0,0))):=Jnv ((hbb.block _ (Jnw HHZA.out).1).trans HHZA.out)
    have HOB:=Jnv (HOA.out.below hbb)
    have hrzb:Jl wb w.heap.size 17=true:=by rw[Jd _ _ _ _ _ HHZB.out];rfl
    have hptb:Jc wb gb 0 17=(JnI y1 (.int .u16 w2a) (.int .u16 w4a) bdf bmf (.int .u16 (fr:Int)) y8 y9 y12 y13 y14 y15 y16 y17 y18 y19 (.slice ob (lo*4-20) cb):Array Value):=by rw[Jn _ _ _ _ _ _ _ HHCB.out];simp
    clear hbb HRU HWH HBA HHCA HHZA HOA hrz hpt hcl1 hrf HHC HHZ HBM HBM2 HOM
    cases hwh:Zr (l.take (lo*4))
    ·have HE:Hid (Q4 l=52):=Jnv (by rw[HE3.out,if_pos hwh])
     go_wp2_with fail
     exact ZK w.heap.size HE.out (by decide) rfl rfl rfl (setRow_heap _ _ _ _ _ _ HHZB.out) (below_setRow HBB.out (JnA _) _)
    ·have HE:Hid (Q4 l=0):=Jnv (by rw[HE3.out,if_neg (by rw[hwh];decide)])
     go_wp2_with fail
     have hfin:(wb.setRow w.heap.size (JnI y1 (.int .u16 w2a) (.int .u16 w4a) bdf bmf (.int .u16 (fr:Int)) y8 y9 y12 y13 y14 y15 y16 y17 y18 y19 (.slice ob (lo*4-20) cb))).heap[w.heap.size]? =some (.cells (JnI y1 (.int .u16 w2a) (.int .u16 w4a) bdf bmf (.int .u16 (fr:Int)) y8 y9 y12 y13 y14 y15 y16 y17 y18 y19 (.slice ob (lo*4-20) cb)) 113 (0,0)):=setRow_heap _ _ _ _ _ _ HHZB.out
     have hpf:Jc (wb.setRow w.heap.size (JnI y1 (.int .u16 w2a) (.int .u16 w4a) bdf bmf (.int .u16 (fr:Int)) y8 y9 y12 y13 y14 y15 y16 y17 y18 y19 (.slice ob (lo*4-20) cb))) w.heap.size 0 17=(JnI y1 (.int .u16 w2a) (.int .u16 w4a) bdf bmf (.int .u16 (fr:Int)) y8 y9 y12 y13 y14 y15 y16 y17 y18 y19 (.slice ob (lo*4-20) cb):Array Value):=by rw[Jn _ _ _ _ _ _ _ hfin];rfl
     refine JjG w.heap.size rfl rfl rfl hpf rfl (.inr ⟨HE.out,ob,cb,?_,?_,below_setRow HBB.out (JnA _) _⟩)
     ·unfold ipA
      rw[HY1.out,HY8.out,HY9.out,HY12.out,HY13.out,HY14.out,HY15.out,HY16.out,HY17.out,HY18.out,HY19.out,HW2a.out,HW4a.out,HBDF.out,HBMF.out,←HF13.out,HHL.out,show((lo*4:Nat):Int)=(lo:Int)*4 by omega]
     ·rw[HHL.out,HLO.out]
      exact(HOB.out.keep (by simp) fun a ha=>setRow_other _ w.heap.size _ _ (by have h1:=(HOB.out.lt ha).1;omega)).mono (by omega)
theorem Jbm (oa:Option Addr)(n cap:Nat)(l:List Int)(w:World)(hr:Jj w oa n cap l)(hn2:n≤100000):Calls Tryz.prog 52 #[.slice oa n cap] w (Jdi w l):=by
 by_cases h:n<20
 ·refine(Jfd oa n cap w h).mono ?_
  intro e w' hp
  exact .err hp (by unfold Q4;rw[hr.len,if_pos h]) (by decide)
 ·rcases hr.addr with h0|⟨g,off,rfl,-⟩
  ·omega
  ·exact Jgr g off n cap l w hr (by omega) hn2
theorem Jgs {P:Program}(t:TypeId)(k1 k2:IntKind)(oa:Option Addr)(n cap size:Nat)(ht:P.underlying t=some (.slice (P.elem t)))(hsize:(P.info? (P.elem t)).map (·.size)=some size)(k m:Nat)(i j:Int)(hi:i=(k:Int))(hj:j=(m:Int))(hk:k≤m)(hm:m≤cap)(w:World):
 (Instr.slice t (.slice oa n cap) (some (.int k1 i)) (some (.int k2 j)) none).run P w=.ok (.slice (Jp oa k cap size) (m-k) (cap-k)) w:=by
 subst hi hj
 obtain⟨inf,h1,h2⟩:=Option.map_eq_some_iff.1 hsize
 rw[run_slice_lh w t oa n cap ht k1 k2 (k:Int) (m:Int) (Int.natCast_nonneg _) (Int.ofNat_le.2 hk) (Int.ofNat_le.2 hm)]
 simp[sizeOf,typeInfo,h1,h2,sliced,Jp,Result.andThen]
def Xz (l:List Int):List Int:=if JA l=0 then Jan l else []
def Jq (w:World)(l:List Int)(err:Int):Ending→World→Prop:=fun e w'=>∃oa cap,e=.returned (.tuple #[.slice oa l.length cap,.int .i64 err])∧JI w' w.heap.size 1 oa l.length cap (l.map (.int .u8))∧Below w.heap.size w w'
theorem JhR {l:List Int}(h:Q4 l=0):20≤ipHl l∧ipHl l≤l.length∧(ipHl l:Int)≤w2 l 2:=by
 unfold Q4 at h
 by_cases h1:l.length<20
 ·rw[if_pos h1] at h;cases h
 rw[if_neg h1] at h
 by_cases h2:l.getD 0 0/16≠4
 ·rw[if_pos h2] at h;cases h
 rw[if_neg h2] at h
 by_cases h3:ipHl l<20
 ·rw[if_pos h3] at h;cases h
 rw[if_neg h3] at h
 by_cases h4:l.length<ipHl l
 ·rw[if_pos h4] at h;cases h
 rw[if_neg h4] at h
 by_cases h5:32768≤w2 l 6∨w2 l 2<ipHl l
 ·rw[if_pos h5] at h;cases h
 omega
theorem Jii (oa:Option Addr)(n cap:Nat)(l:List Int)(w:World)(hr:Jj w oa n cap l)(hn2:n≤100000):Calls Tryz.prog 76 #[.slice oa n cap] w (Jq w (Xz l) (JA l)):=by
 have HR:=Jnv hr
 have hlen:=hr.len
 have HP:=Jnv (Jbm oa n cap l w hr hn2)
 clear hr
 go_enter Tryz.func76,Tryz.ntmps76
 go_wp2_with fail
 refine Jnx HP.out ?_
 rintro e w1 (⟨h0,rfl,hb⟩|⟨h0,ob,cb,rfl,ho,hb⟩)
 ·have HE:Hid (JA l=Q4 l):=Jnv (by unfold JA;rw[if_pos h0])
  have HL:Hid (Xz l=[]):=Jnv (by unfold Xz;rw[if_neg (by rw[HE.out];exact h0)])
  have HB:=Jnv hb
  have hne:(Q4 l==0)=false:=by simpa using h0
  have HF:Hid (Jq w (Xz l) (JA l)=Jq w [] (Q4 l)):=Jnv (by rw[HE.out,HL.out])
  clear hb HP HE HL
  unfold Jlh ipZ
  go_wp2_with fail
  go_ret2
  show Jq w (Xz l) (JA l) _ _
  rw[HF.out]
  exact⟨none,0,rfl,JI.nil _ _ _,Below.all HB.out _⟩
 ·have hk:=JhR h0
  have hbd:=Zd HR.out.byte 2
  have HB:=Jnv hb
  have HK:=Jnv hk
  have HE:Hid (JA l=if (l.length:Int)<w2 l 2 then 10 else 0):=Jnv (by unfold JA;rw[if_neg (by rw[h0];decide)])
  have HR1:=Jnv (HR.out.below hb)
  unfold ipA
  clear hb ho HP
  obtain⟨tot,htot⟩:∃t:Nat,w2 l 2=t:=⟨(w2 l 2).toNat,by omega⟩
  obtain⟨hl,hhl⟩:∃k:Nat,ipHl l=k:=⟨_,rfl⟩
  have HBD:Hid (Jan l=(l.drop hl).take (tot-hl)):=Jnv (by unfold Jan;rw[hhl,htot,Int.toNat_natCast])
  rw[htot] at HE
  rw[htot,hhl] at hk
  rw[htot,hhl]
  rw[hlen] at HE hk
  by_cases hs:(n:Int)<tot
  ·have HE2:Hid (JA l=10):=Jnv (by rw[HE.out,if_pos hs])
   have HL:Hid (Xz l=[]):=Jnv (by unfold Xz;rw[if_neg (by rw[HE2.out];decide)])
   go_wp2_with fail
   go_ret2
   show Jq w (Xz l) (JA l) _ _
   rw[HE2.out,HL.out]
   exact⟨none,0,rfl,JI.nil _ _ _,Below.all HB.out _⟩
  ·have HE2:Hid (JA l=0):=Jnv (by rw[HE.out,if_neg hs])
   have HL:Hid (Xz l=(l.drop hl).take (tot-hl)):=Jnv (by unfold Xz;rw[if_pos HE2.out,HBD.out])
   have hle:=HR.out.le
   have hcut:∀w,(Instr.slice 22 (.slice oa n cap) (some (.int .i64 (hl:Int))) (some (.int .u16 (tot:Int))) none).run Tryz.prog w=.ok (.slice (Jp oa hl cap 1) (tot-hl) (cap-hl)) w:=fun w=>Jgs _ .i64 .u16 oa n cap 1 rfl rfl hl tot _ _ rfl rfl (by omega) (by omega) w
   go_wp2_with fail
   refine Jnx (Bits.clone_any _ _ _ _ _ (((HR1.out.alloc _).cut hl (by omega)).take (tot-hl) (by omega)) (by omega)) ?_
   rintro e w3 ⟨oc,cc,rfl,ho,hb3⟩
   go_wp2_with fail
   go_ret2
   show Jq w (Xz l) (JA l) _ _
   rw[HE2.out,HL.out]
   refine⟨oc,cc,?_,?_,?_⟩
   ·show Ending.returned (.tuple #[.slice oc (min (tot-hl) (n-hl)) cc,.int .i64 0])=_
    rw[List.length_take,List.length_drop,hlen]
   ·exact ho.mono (Below.all HB.out _).size
   ·exact Jno (Below.all HB.out _) hb3
end
end Go.Proofs.YtkgjbipfhhjlpaaGreatDoor
