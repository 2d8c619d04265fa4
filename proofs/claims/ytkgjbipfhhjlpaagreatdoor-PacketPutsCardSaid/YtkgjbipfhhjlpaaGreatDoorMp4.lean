import Derived.Test.YtkgjbipfhhjlpaaGreatDoorMp2
import Derived.Test.YtkgjbipfhhjlpaaGreatDoorMp3
import Derived.Lib.BytesEntry
set_option linter.unusedVariables false
set_option linter.unusedSimpArgs false
set_option maxRecDepth 100000
set_option maxHeartbeats 32000000
namespace Go.Proofs.YtkgjbipfhhjlpaaGreatDoor
section
open Go.RowKit
theorem info_u8:(Tryz.prog.info? 5).map (fun i=>(i.zero,i.size,i.bytes))=some (some (.int .u8 0),1,1):=by kernel_rfl
theorem info_adZ:(Tryz.prog.info? 27).map (·.size)=some 17:=by kernel_rfl
theorem same_any (A:Option Addr)(m c:Nat)(A2:Option Addr)(c2:Nat)(l:List Int)(w:World)(hr:Reads w A m c l)(hr2:Reads w A2 m c2 l)(hm:m≤1000000):Calls Tryz.prog 14 #[.slice A m c,.slice A2 m c2] w (RetAt w (.bool true)):=by
 have HR:=Lib.hid hr
 have HR2:=Lib.hid hr2
 clear hr hr2
 go_enter Tryz.func14,Tryz.ntmps14
 go_wp2_with fail
 go_loopg [5] m (fun g u5 wr=>∃k:Nat,k+g=m∧u5=.int .i64 k∧Hid (Reads wr A m c l)∧Hid (Reads wr A2 m c2 l)∧Hid (Below w.heap.size w wr))
 case atStart=>exact⟨0,by omega,rfl,HR,HR2,Lib.hid (Below.refl _ _)⟩
 case round=>
  obtain⟨k,hk,rfl,HA,HB,HW⟩:=hrel
  by_cases hlt:k<m
  ·obtain⟨g1,o1,rfl,hg1,hc1⟩:=HA.out.here (by omega)
   obtain⟨g2,o2,rfl,hg2,hc2⟩:=HB.out.here (by omega)
   have hx1:=hc1 k hlt
   have hx2:=hc2 k hlt
   have hle1:=HA.out.le
   have hle2:=HB.out.le
   clear hc1 hc2
   generalize l.getD k 0=x at*
   go_wp2_with fail
   go_region
   go_wp2_with fail
   go_roundg (m-(k+1))
   case measure=>omega
   case rel=>exact⟨k+1,by omega,by go_num,Lib.hid HA.out.drew,Lib.hid HB.out.drew,Lib.hid HW.out.drew⟩
  ·go_wp2_with fail
   go_ret
   exact .mk rfl HW.out
def SpoilPost (w:World)(oa:Option Addr):Ending→World→Prop:=fun e w'=>e=.returned (.tuple #[])∧w.grownBy w' (oa.map Addr.block)∧w'.heap.size=w.heap.size
theorem spoil_any (oa:Option Addr)(n cap base:Nat)(xs:List Value)(w:World)(ho:Owns w base 1 oa n cap xs)(hn:n≤1000000):Calls Tryz.prog 18 #[.slice oa n cap] w (SpoilPost w oa):=by
 have HO:=Lib.hid ho
 clear ho
 go_enter Tryz.func18,Tryz.ntmps18
 go_wp2_with fail
 go_loopw [2] (fun u2 wr=>∃k:Nat,k≤n∧u2=.int .i64 k∧Hid (∃ys,Owns wr base 1 oa n cap ys)∧Hid (w.grownBy wr (oa.map Addr.block))∧Hid (wr.heap.size=w.heap.size)) (fun u2 _=>(n:Int)-intOf u2 |>.toNat)
 case atStart=>exact⟨0,Nat.zero_le _,rfl,Lib.hid ⟨xs,HO.out⟩,Lib.hid (World.grownBy_refl _ _),Lib.hid rfl⟩
 case round=>
  obtain⟨k,hk,rfl,HY,HG,HS⟩:=hrel
  by_cases hlt:k<n
  ·obtain⟨ys,hy⟩:=HY.out
   obtain⟨g,off,rfl,hb,hg,hc,ht⟩:=hy.here (by omega)
   have hle:=hy.le
   obtain⟨h1,h2⟩:=ht k (by omega)
   obtain⟨u,hu⟩:=Option.isSome_iff_exists.1 h1
   have HY2:=Lib.hid (hy.set k (by omega) (.int .u8 165))
   have HG2:=Lib.hid (World.grownBy.trans HG.out (World.grownBy_setCell wr ⟨g,off+k,none⟩ (.int .u8 165)))
   clear hc ht h1 hy HY
   go_wp2_with fail
   go_roundw
   case rel=>exact⟨k+1,by omega,by go_num,Lib.hid ⟨_,HY2.out⟩,HG2,Lib.hid (by simpa using HS.out)⟩
   case measure=>simp[intOf];omega
  ·go_wp2_with fail
   go_end0
   exact⟨rfl,HG.out,HS.out⟩
def adBytes (six:Bool)(B:Nat→Int):List Int:=(List.range (sizeZ six).toNat).map B
theorem adBytes_len (six:Bool)(B:Nat→Int):(adBytes six B).length=(sizeZ six).toNat:=by simp[adBytes]
theorem adBytes_get (six:Bool)(B:Nat→Int)(i:Nat)(h:i<(sizeZ six).toNat):(adBytes six B).getD i 0=B i:=by simp[adBytes,List.getD_eq_getElem?_getD,h]
theorem sizeN (six:Bool):∃z:Nat,sizeZ six=z∧4≤z∧z≤16∧(sizeZ six).toNat=z:=by
 cases six
 ·exact⟨4,rfl,by omega,by omega,rfl⟩
 ·exact⟨16,rfl,by omega,by omega,rfl⟩
theorem rbytes_any (six:Bool)(B:Nat→Int)(w:World):Calls Tryz.prog 45 #[adV six B] w (NewBytes w (adBytes six B)):=by
 have HX:Hid (AdBox (w.alloc (.cells #[.bool six,.int .u8 (B 0),.int .u8 (B 1),.int .u8 (B 2),.int .u8 (B 3),.int .u8 (B 4),.int .u8 (B 5),.int .u8 (B 6),.int .u8 (B 7),.int .u8 (B 8),.int .u8 (B 9),.int .u8 (B 10),.int .u8 (B 11),.int .u8 (B 12),.int .u8 (B 13),.int .u8 (B 14),.int .u8 (B 15)] 36)) w.heap.size 36 six B):=Lib.hid (AdBox.made w _ six B)
 have HW:Hid (Below w.heap.size w (w.alloc (.cells #[.bool six,.int .u8 (B 0),.int .u8 (B 1),.int .u8 (B 2),.int .u8 (B 3),.int .u8 (B 4),.int .u8 (B 5),.int .u8 (B 6),.int .u8 (B 7),.int .u8 (B 8),.int .u8 (B 9),.int .u8 (B 10),.int .u8 (B 11),.int .u8 (B 12),.int .u8 (B 13),.int .u8 (B 14),.int .u8 (B 15)] 36))):=Lib.hid (Below.all (Below.refl w.heap.size w) _)
 have HS:=Lib.hid (fun w=>rsize_any six w)
 have HL:=Lib.hid (adBytes_len six B)
 obtain⟨z,hz,hz4,hz16,hzn⟩:=sizeN six
 have HBY:Hid (adBytes six B=(List.range z).map B):=Lib.hid (by unfold adBytes;rw[hzn])
 rw[hz] at HS
 rw[hzn] at HL
 clear hz hzn
 unfold adV
 go_enter Tryz.func45,Tryz.ntmps45
 go_wp2_with fail
 have hs1:w.heap.size+1≤(w.alloc (.cells #[.bool six,.int .u8 (B 0),.int .u8 (B 1),.int .u8 (B 2),.int .u8 (B 3),.int .u8 (B 4),.int .u8 (B 5),.int .u8 (B 6),.int .u8 (B 7),.int .u8 (B 8),.int .u8 (B 9),.int .u8 (B 10),.int .u8 (B 11),.int .u8 (B 12),.int .u8 (B 13),.int .u8 (B 14),.int .u8 (B 15)] 36)).heap.size:=by simp
 generalize w.alloc (.cells #[.bool six,.int .u8 (B 0),.int .u8 (B 1),.int .u8 (B 2),.int .u8 (B 3),.int .u8 (B 4),.int .u8 (B 5),.int .u8 (B 6),.int .u8 (B 7),.int .u8 (B 8),.int .u8 (B 9),.int .u8 (B 10),.int .u8 (B 11),.int .u8 (B 12),.int .u8 (B 13),.int .u8 (B 14),.int .u8 (B 15)] 36)=w1 at*
 go_loopw [3,4] (fun u3 u4 wr=>∃(k:Nat) (oa:Option Addr) (cap:Nat),k≤z∧u4=.int .i64 k∧u3=.slice oa k cap∧Hid (Owns wr (w.heap.size+1) 1 oa k cap (((List.range k).map B).map (.int .u8)))∧Hid (AdBox wr w.heap.size 36 six B)∧Hid (Below w.heap.size w wr)∧w.heap.size+1≤wr.heap.size) (fun _ u4 _=>(z:Int)-intOf u4 |>.toNat)
 case atStart=>exact⟨0,none,0,by omega,rfl,rfl,Lib.hid (Owns.nil _ _ _),HX,HW,hs1⟩
 case round=>
  obtain⟨k,oa,cap,hk,rfl,rfl,HO,HX,HW,hsr⟩:=hrel
  have hsx:=HX.out.six
  go_wp2_with fail
  refine Calls.mono (HS.out _) ?_
  rintro e w2 ⟨rfl,rfl⟩
  by_cases hlt:k<z
  ·have hcx:=HX.out.cell k (by omega)
   have HR1:Hid (List.range (k+1)=List.range k++[k]):=Lib.hid List.range_succ
   have HLT:=Lib.hid (fun a (ha:oa=some a)=>(HO.out.lt ha).1)
   go_wp2_with (at_builtin;refine Stopped.of ?_)
   refine Stopped.mk ?_
   refine wpList_append_owns _ rfl _ _ 22 rfl 5 (.int .u8 0) 1 1 (w.heap.size+1) Tryz.underlying22 info_u8 rfl (by decide) oa k cap _ rfl (HO.out.alloc _) ⟨wr.heap.size,0,none⟩ 1 1 [.int .u8 (B k)] rfl rfl ?_ ?_ (by decide) ?_ ?_ ?_ ?_
   ·exact news_new _ _ _
   ·simp[Value.oneCell']
   ·unfold maxLen;omega
   ·omega
   ·simp only[World.size_alloc];omega
   intro oa' cap' w5 ho' hg hd
   have HX5:=Lib.hid ((HX.out.alloc (.cells #[.int .u8 (B k)] 5)).keep (hg.block _ (by simp only[World.size_alloc];omega) (fun e=>by
    obtain⟨a,ha,hab⟩:=Option.map_eq_some_iff.1 e.symm
    have:=HLT.out a ha;omega)))
   have HW5:Hid (Below w.heap.size w w5):=Lib.hid (Below.appended (Below.all HW.out _) (HO.out.alloc _) (by omega) hg (by simp only[World.size_alloc];omega))
   have hs5:w.heap.size+1≤w5.heap.size:=by have:=hg.size;simp only[World.size_alloc] at this;omega
   have HO5:Hid (Owns w5 (w.heap.size+1) 1 oa' (k+1) cap' (((List.range (k+1)).map B).map (.int .u8))):=Lib.hid (by
    rw[HR1.out,List.map_append,List.map_append]
    exact ho')
   clear hg hd ho' HX HW HO hsr HLT hcx hsx
   go_wp2_with fail
   go_roundw
   case rel=>exact⟨k+1,oa',cap',by omega,by go_num,rfl,HO5,HX5,HW5,hs5⟩
   case measure=>simp[intOf];omega
  ·obtain rfl:k=z:=by omega
   go_wp2_with fail
   go_ret
   exact .mk (by rw[HBY.out];exact HO.out.mono (by omega)) HL.out.symm HW.out
theorem bytes_any (six:Bool)(B:Nat→Int)(w:World):Calls Tryz.prog 64 #[adV six B] w (NewBytes w (adBytes six B)):=by
 have HX:Hid (AdBox (w.alloc (.cells #[.bool six,.int .u8 (B 0),.int .u8 (B 1),.int .u8 (B 2),.int .u8 (B 3),.int .u8 (B 4),.int .u8 (B 5),.int .u8 (B 6),.int .u8 (B 7),.int .u8 (B 8),.int .u8 (B 9),.int .u8 (B 10),.int .u8 (B 11),.int .u8 (B 12),.int .u8 (B 13),.int .u8 (B 14),.int .u8 (B 15)] 27)) w.heap.size 27 six B):=Lib.hid (AdBox.made w _ six B)
 have HW:Hid (Below w.heap.size w (w.alloc (.cells #[.bool six,.int .u8 (B 0),.int .u8 (B 1),.int .u8 (B 2),.int .u8 (B 3),.int .u8 (B 4),.int .u8 (B 5),.int .u8 (B 6),.int .u8 (B 7),.int .u8 (B 8),.int .u8 (B 9),.int .u8 (B 10),.int .u8 (B 11),.int .u8 (B 12),.int .u8 (B 13),.int .u8 (B 14),.int .u8 (B 15)] 27))):=Lib.hid (Below.all (Below.refl w.heap.size w) _)
 have HS:=Lib.hid (fun w=>size_any six B w)
 have HL:=Lib.hid (adBytes_len six B)
 have HGT:=Lib.hid (fun i h=>adBytes_get six B i h)
 obtain⟨z,hz,hz4,hz16,hzn⟩:=sizeN six
 rw[hz] at HS
 rw[hzn] at HL HGT
 clear hz hzn
 generalize adBytes six B=l at*
 unfold adV at*
 go_enter Tryz.func64,Tryz.ntmps64
 go_wp2_with fail
 generalize w.alloc (.cells #[.bool six,.int .u8 (B 0),.int .u8 (B 1),.int .u8 (B 2),.int .u8 (B 3),.int .u8 (B 4),.int .u8 (B 5),.int .u8 (B 6),.int .u8 (B 7),.int .u8 (B 8),.int .u8 (B 9),.int .u8 (B 10),.int .u8 (B 11),.int .u8 (B 12),.int .u8 (B 13),.int .u8 (B 14),.int .u8 (B 15)] 27)=w1 at*
 refine Calls.mono (HS.out _) ?_
 rintro e w2 ⟨rfl,hb2⟩
 have HX2:=Lib.hid (HX.out.below hb2)
 have HW2:=Lib.hid (Below.via HW.out hb2)
 have hz16':(z:Int)≤16:=by omega
 have hne:¬(16=0):=by omega
 clear hb2 HX HW
 go_wp2_with fail
 refine Calls.mono (Tryz.bytes_Clone_at ⟨w.heap.size,1,none⟩ z 16 l w2 HL.out (by omega) (fun i hi=>by
  rw[Addr.add_lit,HGT.out i hi]
  exact HX2.out.cell i (by omega))) ?_
 rintro e w3 ⟨v',rfl,hrow,-,hb3⟩
 obtain⟨oa,cap,rfl,hO⟩:=Owns.of_row hrow
 have HO:=Lib.hid (hO.mono HW2.out.size)
 have HW3:=Lib.hid (Below.via HW2.out hb3)
 clear hrow hO hb3
 go_wp2_with fail
 go_ret
 exact .mk HO.out HL.out.symm HW3.out
def fromB (l:List Int)(i:Nat):Int:=l.getD i 0
def fromV (l:List Int):Value:=if l.length=16 then .tuple #[adV true (fromB l),.int .i64 0] else if l.length=4 then .tuple #[adV false (fromB l),.int .i64 0] else .tuple #[adV false fun _=>0,.int .i64 2]
theorem fromB_hi {l:List Int}{n:Nat}(h:l.length=n)(i:Nat)(hi:n≤i):fromB l i=0:=by
 unfold fromB
 rw[List.getD_eq_getElem?_getD,List.getElem?_eq_none (by omega)];rfl
theorem fromV_16 {l:List Int}(h:l.length=16):fromV l=.tuple #[adV true (fromB l),.int .i64 0]:=by unfold fromV;rw[if_pos h]
theorem fromV_4 {l:List Int}(h:l.length=4):fromV l=.tuple #[adV false (fromB l),.int .i64 0]:=by unfold fromV;rw[if_neg (by omega),if_pos h]
theorem fromV_no {l:List Int}(h:l.length≠16)(h':l.length≠4):fromV l=.tuple #[adV false fun _=>0,.int .i64 2]:=by unfold fromV;rw[if_neg h,if_neg h']
theorem stop_at (n:Nat){P:Program}{ops:Array Oper}{Q:Exit→Act→World→Prop}{op:Op}{ty:TypeId}{pos:String}{after:Array Edge}{g:Option (Nat×Bool)}{rest:List Oper}{a:Act}{w:World}
 (h:Stopped (wpList P ops Q (⟨some n,op,ty,pos,after,g⟩::rest) a w)):wpList P ops Q (⟨some n,op,ty,pos,after,g⟩::rest) a w:=h
theorem from_16 (A:Option Addr)(c:Nat)(l:List Int)(w:World)(hr:Reads w A 16 c l):Calls Tryz.prog 140 #[.slice A 16 c] w (RetAt w (fromV l)):=by
 rw[fromV_16 hr.len]
 have HF:=Lib.hid (fun i h=>fromB_hi hr.len i h)
 have HS:=Lib.hid (fun w=>size_any true (fun _=>0) w)
 rw[show sizeZ true=16 from rfl] at HS
 obtain⟨g,off,rfl,hg,hc⟩:=hr.here (by omega)
 have HC:Hid (∀j,j<16→w.cell? ⟨g,off+j,none⟩=some (.int .u8 (fromB l j))):=Lib.hid hc
 have HB:=Lib.hid (show Below w.heap.size w ((w.alloc (.cells #[.bool false,.int .u8 ((fun _=>(0:Int)) 0),.int .u8 ((fun _=>(0:Int)) 1),.int .u8 ((fun _=>(0:Int)) 2),.int .u8 ((fun _=>(0:Int)) 3),.int .u8 ((fun _=>(0:Int)) 4),.int .u8 ((fun _=>(0:Int)) 5),.int .u8 ((fun _=>(0:Int)) 6),.int .u8 ((fun _=>(0:Int)) 7),.int .u8 ((fun _=>(0:Int)) 8),.int .u8 ((fun _=>(0:Int)) 9),.int .u8 ((fun _=>(0:Int)) 10),.int .u8 ((fun _=>(0:Int)) 11),.int .u8 ((fun _=>(0:Int)) 12),.int .u8 ((fun _=>(0:Int)) 13),.int .u8 ((fun _=>(0:Int)) 14),.int .u8 ((fun _=>(0:Int)) 15)] 27)).alloc (.cells #[.bool true,.int .u8 ((fun _=>(0:Int)) 0),.int .u8 ((fun _=>(0:Int)) 1),.int .u8 ((fun _=>(0:Int)) 2),.int .u8 ((fun _=>(0:Int)) 3),.int .u8 ((fun _=>(0:Int)) 4),.int .u8 ((fun _=>(0:Int)) 5),.int .u8 ((fun _=>(0:Int)) 6),.int .u8 ((fun _=>(0:Int)) 7),.int .u8 ((fun _=>(0:Int)) 8),.int .u8 ((fun _=>(0:Int)) 9),.int .u8 ((fun _=>(0:Int)) 10),.int .u8 ((fun _=>(0:Int)) 11),.int .u8 ((fun _=>(0:Int)) 12),.int .u8 ((fun _=>(0:Int)) 13),.int .u8 ((fun _=>(0:Int)) 14),.int .u8 ((fun _=>(0:Int)) 15)] 27)) from Below.all (Below.all (Below.refl _ _) _) _)
 clear hr hc
 unfold adV at HS
 go_enter Tryz.func140,Tryz.ntmps140
 go_wp2_with fail
 refine Calls.mono (HS.out _) ?_
 rintro e w2 ⟨rfl,hb2⟩
 have hX0:=(hb2.block _ (by simp;omega)).trans (heap_alloc2_old w (.cells #[.bool false,.int .u8 ((fun _=>(0:Int)) 0),.int .u8 ((fun _=>(0:Int)) 1),.int .u8 ((fun _=>(0:Int)) 2),.int .u8 ((fun _=>(0:Int)) 3),.int .u8 ((fun _=>(0:Int)) 4),.int .u8 ((fun _=>(0:Int)) 5),.int .u8 ((fun _=>(0:Int)) 6),.int .u8 ((fun _=>(0:Int)) 7),.int .u8 ((fun _=>(0:Int)) 8),.int .u8 ((fun _=>(0:Int)) 9),.int .u8 ((fun _=>(0:Int)) 10),.int .u8 ((fun _=>(0:Int)) 11),.int .u8 ((fun _=>(0:Int)) 12),.int .u8 ((fun _=>(0:Int)) 13),.int .u8 ((fun _=>(0:Int)) 14),.int .u8 ((fun _=>(0:Int)) 15)] 27) (.cells #[.bool true,.int .u8 ((fun _=>(0:Int)) 0),.int .u8 ((fun _=>(0:Int)) 1),.int .u8 ((fun _=>(0:Int)) 2),.int .u8 ((fun _=>(0:Int)) 3),.int .u8 ((fun _=>(0:Int)) 4),.int .u8 ((fun _=>(0:Int)) 5),.int .u8 ((fun _=>(0:Int)) 6),.int .u8 ((fun _=>(0:Int)) 7),.int .u8 ((fun _=>(0:Int)) 8),.int .u8 ((fun _=>(0:Int)) 9),.int .u8 ((fun _=>(0:Int)) 10),.int .u8 ((fun _=>(0:Int)) 11),.int .u8 ((fun _=>(0:Int)) 12),.int .u8 ((fun _=>(0:Int)) 13),.int .u8 ((fun _=>(0:Int)) 14),.int .u8 ((fun _=>(0:Int)) 15)] 27))
 have hY0:=(hb2.block _ (by simp)).trans (heap_alloc2_new w (.cells #[.bool false,.int .u8 ((fun _=>(0:Int)) 0),.int .u8 ((fun _=>(0:Int)) 1),.int .u8 ((fun _=>(0:Int)) 2),.int .u8 ((fun _=>(0:Int)) 3),.int .u8 ((fun _=>(0:Int)) 4),.int .u8 ((fun _=>(0:Int)) 5),.int .u8 ((fun _=>(0:Int)) 6),.int .u8 ((fun _=>(0:Int)) 7),.int .u8 ((fun _=>(0:Int)) 8),.int .u8 ((fun _=>(0:Int)) 9),.int .u8 ((fun _=>(0:Int)) 10),.int .u8 ((fun _=>(0:Int)) 11),.int .u8 ((fun _=>(0:Int)) 12),.int .u8 ((fun _=>(0:Int)) 13),.int .u8 ((fun _=>(0:Int)) 14),.int .u8 ((fun _=>(0:Int)) 15)] 27) (.cells #[.bool true,.int .u8 ((fun _=>(0:Int)) 0),.int .u8 ((fun _=>(0:Int)) 1),.int .u8 ((fun _=>(0:Int)) 2),.int .u8 ((fun _=>(0:Int)) 3),.int .u8 ((fun _=>(0:Int)) 4),.int .u8 ((fun _=>(0:Int)) 5),.int .u8 ((fun _=>(0:Int)) 6),.int .u8 ((fun _=>(0:Int)) 7),.int .u8 ((fun _=>(0:Int)) 8),.int .u8 ((fun _=>(0:Int)) 9),.int .u8 ((fun _=>(0:Int)) 10),.int .u8 ((fun _=>(0:Int)) 11),.int .u8 ((fun _=>(0:Int)) 12),.int .u8 ((fun _=>(0:Int)) 13),.int .u8 ((fun _=>(0:Int)) 14),.int .u8 ((fun _=>(0:Int)) 15)] 27))
 have HW2:=Lib.hid (Below.via HB.out hb2)
 have hs2:w.heap.size+1<w2.heap.size:=by have:=hb2.size;simp at this;omega
 clear hb2 HB HS
 go_wp2_with (with_reducible refine stop_at 18 ?_)
 refine Stopped.mk ?_
 refine wpList_copy_splice rfl (.tmp 16) (.tmp 17) 22 22 rfl 5 Tryz.underlying22 (by kernel_rfl) (some ⟨w.heap.size+1,1,none⟩) (some ⟨g,off,none⟩) 16 16 16 c rfl rfl (w.heap.size+1) 1
  (.bool true::List.replicate 16 (.int .u8 0)) 27 hY0 (bytesL 16 (fromB l)) (bytesL_len _ _) (fun _=>⟨rfl,_,rfl,fun j v hv=>?_⟩) (by rw[bytesL_len];decide) (bytesL_one _ _) (w.heap.size+1) w2 (Below.refl _ _) (Nat.le_refl _) ?_
 ·obtain⟨hj,rfl⟩:=bytesL_get _ _ _ _ hv
  rw[Addr.add_lit]
  exact(HW2.out.cell (p:=⟨g,off+j,none⟩) hg).trans (HC.out j hj)
 intro w' hg' hb
 have hX1:=(hb.block w.heap.size (by omega)).trans hX0
 have hY1:w'.heap[w.heap.size+1]? =some (.cells #[.bool true,.int .u8 (fromB l 0),.int .u8 (fromB l 1),.int .u8 (fromB l 2),.int .u8 (fromB l 3),.int .u8 (fromB l 4),.int .u8 (fromB l 5),.int .u8 (fromB l 6),.int .u8 (fromB l 7),.int .u8 (fromB l 8),.int .u8 (fromB l 9),.int .u8 (fromB l 10),.int .u8 (fromB l 11),.int .u8 (fromB l 12),.int .u8 (fromB l 13),.int .u8 (fromB l 14),.int .u8 (fromB l 15)] 27 (0,0)):=hg'.out
 have hpp:partOf w' (w.heap.size+1) 0 17=#[.bool true,.int .u8 (fromB l 0),.int .u8 (fromB l 1),.int .u8 (fromB l 2),.int .u8 (fromB l 3),.int .u8 (fromB l 4),.int .u8 (fromB l 5),.int .u8 (fromB l 6),.int .u8 (fromB l 7),.int .u8 (fromB l 8),.int .u8 (fromB l 9),.int .u8 (fromB l 10),.int .u8 (fromB l 11),.int .u8 (fromB l 12),.int .u8 (fromB l 13),.int .u8 (fromB l 14),.int .u8 (fromB l 15)]:=by rw[partOf_row _ _ _ _ _ _ _ hY1];simp
 have hrr:=(AdBox.mk (six:=false) (B:=fun _=>(0:Int)) hX1).row
 have HH:=Lib.hid hX1
 have HB3:Hid (Below w.heap.size w w'):=Lib.hid (HW2.out.trans (hb.mono (by omega)))
 clear hX0 hY0 hg' hb hX1 hY1 hs2 HW2
 go_wp2_with fail
 refine bodyPost_ret (v:=.tuple #[adV true (fromB l),.int .i64 0]) ?_ rfl (.mk rfl (below_setRow HB3.out (Nat.le_refl _) _))
 refine results_ad2 _ _ Tryz.underlying27 info_adZ rfl _ _ w.heap.size (.int .i64 0) rfl rfl ?_
 exact partOf_set2 HH.out
theorem from_4 (A:Option Addr)(c:Nat)(l:List Int)(w:World)(hr:Reads w A 4 c l):Calls Tryz.prog 140 #[.slice A 4 c] w (RetAt w (fromV l)):=by
 rw[fromV_4 hr.len]
 have HF:=Lib.hid (fun i h=>fromB_hi hr.len i h)
 have HS:=Lib.hid (fun w=>size_any false (fun _=>0) w)
 rw[show sizeZ false=4 from rfl] at HS
 obtain⟨g,off,rfl,hg,hc⟩:=hr.here (by omega)
 have HC:Hid (∀j,j<4→w.cell? ⟨g,off+j,none⟩=some (.int .u8 (fromB l j))):=Lib.hid hc
 have HB:=Lib.hid (show Below w.heap.size w ((w.alloc (.cells #[.bool false,.int .u8 ((fun _=>(0:Int)) 0),.int .u8 ((fun _=>(0:Int)) 1),.int .u8 ((fun _=>(0:Int)) 2),.int .u8 ((fun _=>(0:Int)) 3),.int .u8 ((fun _=>(0:Int)) 4),.int .u8 ((fun _=>(0:Int)) 5),.int .u8 ((fun _=>(0:Int)) 6),.int .u8 ((fun _=>(0:Int)) 7),.int .u8 ((fun _=>(0:Int)) 8),.int .u8 ((fun _=>(0:Int)) 9),.int .u8 ((fun _=>(0:Int)) 10),.int .u8 ((fun _=>(0:Int)) 11),.int .u8 ((fun _=>(0:Int)) 12),.int .u8 ((fun _=>(0:Int)) 13),.int .u8 ((fun _=>(0:Int)) 14),.int .u8 ((fun _=>(0:Int)) 15)] 27)).alloc (.cells #[.bool false,.int .u8 ((fun _=>(0:Int)) 0),.int .u8 ((fun _=>(0:Int)) 1),.int .u8 ((fun _=>(0:Int)) 2),.int .u8 ((fun _=>(0:Int)) 3),.int .u8 ((fun _=>(0:Int)) 4),.int .u8 ((fun _=>(0:Int)) 5),.int .u8 ((fun _=>(0:Int)) 6),.int .u8 ((fun _=>(0:Int)) 7),.int .u8 ((fun _=>(0:Int)) 8),.int .u8 ((fun _=>(0:Int)) 9),.int .u8 ((fun _=>(0:Int)) 10),.int .u8 ((fun _=>(0:Int)) 11),.int .u8 ((fun _=>(0:Int)) 12),.int .u8 ((fun _=>(0:Int)) 13),.int .u8 ((fun _=>(0:Int)) 14),.int .u8 ((fun _=>(0:Int)) 15)] 27)) from Below.all (Below.all (Below.refl _ _) _) _)
 clear hr hc
 unfold adV at HS
 go_enter Tryz.func140,Tryz.ntmps140
 go_wp2_with fail
 refine Calls.mono (HS.out _) ?_
 rintro e w2 ⟨rfl,hb2⟩
 have hX0:=(hb2.block _ (by simp;omega)).trans (heap_alloc2_old w (.cells #[.bool false,.int .u8 ((fun _=>(0:Int)) 0),.int .u8 ((fun _=>(0:Int)) 1),.int .u8 ((fun _=>(0:Int)) 2),.int .u8 ((fun _=>(0:Int)) 3),.int .u8 ((fun _=>(0:Int)) 4),.int .u8 ((fun _=>(0:Int)) 5),.int .u8 ((fun _=>(0:Int)) 6),.int .u8 ((fun _=>(0:Int)) 7),.int .u8 ((fun _=>(0:Int)) 8),.int .u8 ((fun _=>(0:Int)) 9),.int .u8 ((fun _=>(0:Int)) 10),.int .u8 ((fun _=>(0:Int)) 11),.int .u8 ((fun _=>(0:Int)) 12),.int .u8 ((fun _=>(0:Int)) 13),.int .u8 ((fun _=>(0:Int)) 14),.int .u8 ((fun _=>(0:Int)) 15)] 27) (.cells #[.bool false,.int .u8 ((fun _=>(0:Int)) 0),.int .u8 ((fun _=>(0:Int)) 1),.int .u8 ((fun _=>(0:Int)) 2),.int .u8 ((fun _=>(0:Int)) 3),.int .u8 ((fun _=>(0:Int)) 4),.int .u8 ((fun _=>(0:Int)) 5),.int .u8 ((fun _=>(0:Int)) 6),.int .u8 ((fun _=>(0:Int)) 7),.int .u8 ((fun _=>(0:Int)) 8),.int .u8 ((fun _=>(0:Int)) 9),.int .u8 ((fun _=>(0:Int)) 10),.int .u8 ((fun _=>(0:Int)) 11),.int .u8 ((fun _=>(0:Int)) 12),.int .u8 ((fun _=>(0:Int)) 13),.int .u8 ((fun _=>(0:Int)) 14),.int .u8 ((fun _=>(0:Int)) 15)] 27))
 have hY0:=(hb2.block _ (by simp)).trans (heap_alloc2_new w (.cells #[.bool false,.int .u8 ((fun _=>(0:Int)) 0),.int .u8 ((fun _=>(0:Int)) 1),.int .u8 ((fun _=>(0:Int)) 2),.int .u8 ((fun _=>(0:Int)) 3),.int .u8 ((fun _=>(0:Int)) 4),.int .u8 ((fun _=>(0:Int)) 5),.int .u8 ((fun _=>(0:Int)) 6),.int .u8 ((fun _=>(0:Int)) 7),.int .u8 ((fun _=>(0:Int)) 8),.int .u8 ((fun _=>(0:Int)) 9),.int .u8 ((fun _=>(0:Int)) 10),.int .u8 ((fun _=>(0:Int)) 11),.int .u8 ((fun _=>(0:Int)) 12),.int .u8 ((fun _=>(0:Int)) 13),.int .u8 ((fun _=>(0:Int)) 14),.int .u8 ((fun _=>(0:Int)) 15)] 27) (.cells #[.bool false,.int .u8 ((fun _=>(0:Int)) 0),.int .u8 ((fun _=>(0:Int)) 1),.int .u8 ((fun _=>(0:Int)) 2),.int .u8 ((fun _=>(0:Int)) 3),.int .u8 ((fun _=>(0:Int)) 4),.int .u8 ((fun _=>(0:Int)) 5),.int .u8 ((fun _=>(0:Int)) 6),.int .u8 ((fun _=>(0:Int)) 7),.int .u8 ((fun _=>(0:Int)) 8),.int .u8 ((fun _=>(0:Int)) 9),.int .u8 ((fun _=>(0:Int)) 10),.int .u8 ((fun _=>(0:Int)) 11),.int .u8 ((fun _=>(0:Int)) 12),.int .u8 ((fun _=>(0:Int)) 13),.int .u8 ((fun _=>(0:Int)) 14),.int .u8 ((fun _=>(0:Int)) 15)] 27))
 have HW2:=Lib.hid (Below.via HB.out hb2)
 have hs2:w.heap.size+1<w2.heap.size:=by have:=hb2.size;simp at this;omega
 clear hb2 HB HS
 go_wp2_with (with_reducible refine stop_at 18 ?_)
 refine Stopped.mk ?_
 refine wpList_copy_splice rfl (.tmp 16) (.tmp 17) 22 22 rfl 5 Tryz.underlying22 (by kernel_rfl) (some ⟨w.heap.size+1,1,none⟩) (some ⟨g,off,none⟩) 16 16 4 c rfl rfl (w.heap.size+1) 1
  (.bool false::List.replicate 16 (.int .u8 0)) 27 hY0 (bytesL 4 (fromB l)) (bytesL_len _ _) (fun _=>⟨rfl,_,rfl,fun j v hv=>?_⟩) (by rw[bytesL_len];decide) (bytesL_one _ _) (w.heap.size+1) w2 (Below.refl _ _) (Nat.le_refl _) ?_
 ·obtain⟨hj,rfl⟩:=bytesL_get _ _ _ _ hv
  rw[Addr.add_lit]
  exact(HW2.out.cell (p:=⟨g,off+j,none⟩) hg).trans (HC.out j hj)
 intro w' hg' hb
 have hX1:=(hb.block w.heap.size (by omega)).trans hX0
 have hY1:w'.heap[w.heap.size+1]? =some (.cells #[.bool false,.int .u8 (fromB l 0),.int .u8 (fromB l 1),.int .u8 (fromB l 2),.int .u8 (fromB l 3),.int .u8 0,.int .u8 0,.int .u8 0,.int .u8 0,.int .u8 0,.int .u8 0,.int .u8 0,.int .u8 0,.int .u8 0,.int .u8 0,.int .u8 0,.int .u8 0] 27 (0,0)):=hg'.out
 have hpp:partOf w' (w.heap.size+1) 0 17=#[.bool false,.int .u8 (fromB l 0),.int .u8 (fromB l 1),.int .u8 (fromB l 2),.int .u8 (fromB l 3),.int .u8 0,.int .u8 0,.int .u8 0,.int .u8 0,.int .u8 0,.int .u8 0,.int .u8 0,.int .u8 0,.int .u8 0,.int .u8 0,.int .u8 0,.int .u8 0]:=by rw[partOf_row _ _ _ _ _ _ _ hY1];simp
 have hrr:=(AdBox.mk (six:=false) (B:=fun _=>(0:Int)) hX1).row
 have HH:=Lib.hid hX1
 have HB3:Hid (Below w.heap.size w w'):=Lib.hid (HW2.out.trans (hb.mono (by omega)))
 clear hX0 hY0 hg' hb hX1 hY1 hs2 HW2
 go_wp2_with fail
 refine bodyPost_ret (v:=.tuple #[adV false (fromB l),.int .i64 0]) ?_ rfl (.mk rfl (below_setRow HB3.out (Nat.le_refl _) _))
 refine results_ad2 _ _ Tryz.underlying27 info_adZ rfl _ _ w.heap.size (.int .i64 0) rfl rfl ?_
 rw[partOf_set2 HH.out]
 rw[HF.out 4 (by omega),HF.out 5 (by omega),HF.out 6 (by omega),HF.out 7 (by omega),HF.out 8 (by omega),HF.out 9 (by omega),HF.out 10 (by omega),HF.out 11 (by omega),HF.out 12 (by omega),HF.out 13 (by omega),HF.out 14 (by omega),HF.out 15 (by omega)]
theorem from_no (A:Option Addr)(n c:Nat)(l:List Int)(w:World)(hr:Reads w A n c l)(hm:n≤1000000)(h16:n≠16)(h4:n≠4):Calls Tryz.prog 140 #[.slice A n c] w (RetAt w (fromV l)):=by
 rw[fromV_no (by rw[hr.len];exact h16) (by rw[hr.len];exact h4)]
 have HS:=Lib.hid (fun w=>size_any false (fun _=>0) w)
 rw[show sizeZ false=4 from rfl] at HS
 have HB:=Lib.hid (show Below w.heap.size w ((w.alloc (.cells #[.bool false,.int .u8 ((fun _=>(0:Int)) 0),.int .u8 ((fun _=>(0:Int)) 1),.int .u8 ((fun _=>(0:Int)) 2),.int .u8 ((fun _=>(0:Int)) 3),.int .u8 ((fun _=>(0:Int)) 4),.int .u8 ((fun _=>(0:Int)) 5),.int .u8 ((fun _=>(0:Int)) 6),.int .u8 ((fun _=>(0:Int)) 7),.int .u8 ((fun _=>(0:Int)) 8),.int .u8 ((fun _=>(0:Int)) 9),.int .u8 ((fun _=>(0:Int)) 10),.int .u8 ((fun _=>(0:Int)) 11),.int .u8 ((fun _=>(0:Int)) 12),.int .u8 ((fun _=>(0:Int)) 13),.int .u8 ((fun _=>(0:Int)) 14),.int .u8 ((fun _=>(0:Int)) 15)] 27)).alloc (.cells #[.bool false,.int .u8 ((fun _=>(0:Int)) 0),.int .u8 ((fun _=>(0:Int)) 1),.int .u8 ((fun _=>(0:Int)) 2),.int .u8 ((fun _=>(0:Int)) 3),.int .u8 ((fun _=>(0:Int)) 4),.int .u8 ((fun _=>(0:Int)) 5),.int .u8 ((fun _=>(0:Int)) 6),.int .u8 ((fun _=>(0:Int)) 7),.int .u8 ((fun _=>(0:Int)) 8),.int .u8 ((fun _=>(0:Int)) 9),.int .u8 ((fun _=>(0:Int)) 10),.int .u8 ((fun _=>(0:Int)) 11),.int .u8 ((fun _=>(0:Int)) 12),.int .u8 ((fun _=>(0:Int)) 13),.int .u8 ((fun _=>(0:Int)) 14),.int .u8 ((fun _=>(0:Int)) 15)] 27)) from Below.all (Below.all (Below.refl _ _) _) _)
 have hn1:((n:Int)==16)=false:=by simp;omega
 have hn2:¬((n:Int)=4):=by omega
 clear hr
 unfold adV at HS
 go_enter Tryz.func140,Tryz.ntmps140
 go_wp2_with fail
 refine Calls.mono (HS.out _) ?_
 rintro e w2 ⟨rfl,hb2⟩
 have hX0:=(hb2.block _ (by simp;omega)).trans (heap_alloc2_old w (.cells #[.bool false,.int .u8 ((fun _=>(0:Int)) 0),.int .u8 ((fun _=>(0:Int)) 1),.int .u8 ((fun _=>(0:Int)) 2),.int .u8 ((fun _=>(0:Int)) 3),.int .u8 ((fun _=>(0:Int)) 4),.int .u8 ((fun _=>(0:Int)) 5),.int .u8 ((fun _=>(0:Int)) 6),.int .u8 ((fun _=>(0:Int)) 7),.int .u8 ((fun _=>(0:Int)) 8),.int .u8 ((fun _=>(0:Int)) 9),.int .u8 ((fun _=>(0:Int)) 10),.int .u8 ((fun _=>(0:Int)) 11),.int .u8 ((fun _=>(0:Int)) 12),.int .u8 ((fun _=>(0:Int)) 13),.int .u8 ((fun _=>(0:Int)) 14),.int .u8 ((fun _=>(0:Int)) 15)] 27) (.cells #[.bool false,.int .u8 ((fun _=>(0:Int)) 0),.int .u8 ((fun _=>(0:Int)) 1),.int .u8 ((fun _=>(0:Int)) 2),.int .u8 ((fun _=>(0:Int)) 3),.int .u8 ((fun _=>(0:Int)) 4),.int .u8 ((fun _=>(0:Int)) 5),.int .u8 ((fun _=>(0:Int)) 6),.int .u8 ((fun _=>(0:Int)) 7),.int .u8 ((fun _=>(0:Int)) 8),.int .u8 ((fun _=>(0:Int)) 9),.int .u8 ((fun _=>(0:Int)) 10),.int .u8 ((fun _=>(0:Int)) 11),.int .u8 ((fun _=>(0:Int)) 12),.int .u8 ((fun _=>(0:Int)) 13),.int .u8 ((fun _=>(0:Int)) 14),.int .u8 ((fun _=>(0:Int)) 15)] 27))
 have hrr:=(AdBox.mk (six:=false) (B:=fun _=>(0:Int)) hX0).row
 have HH:=Lib.hid hX0
 have HW2:=Lib.hid (Below.via HB.out hb2)
 clear hb2 HB HS hX0
 go_wp2_with fail
 exact bodyPost_ret (v:=.tuple #[adV false fun _=>0,.int .i64 2]) (results_ad2 _ _ Tryz.underlying27 info_adZ rfl _ _ w.heap.size (.int .i64 2) rfl rfl (partOf_set2 HH.out)) rfl (.mk rfl (below_setRow HW2.out (Nat.le_refl _) _))
theorem from_any (A:Option Addr)(n c:Nat)(l:List Int)(w:World)(hr:Reads w A n c l)(hm:n≤1000000):Calls Tryz.prog 140 #[.slice A n c] w (RetAt w (fromV l)):=by
 by_cases h16:n=16
 ·subst h16;exact from_16 A c l w hr
 ·by_cases h4:n=4
  ·subst h4;exact from_4 A c l w hr
  ·exact from_no A n c l w hr hm h16 h4
end
end Go.Proofs.YtkgjbipfhhjlpaaGreatDoor
