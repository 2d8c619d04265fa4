import Derived.Test.YtkgjbipfhhjlpaaGreatDoorMb2
import Derived.Test.YtkgjbipfhhjlpaaGreatDoorMb3
import Derived.Lib.BytesEntry
set_option linter.unusedVariables false
set_option linter.unusedSimpArgs false
set_option maxRecDepth 100000
set_option maxHeartbeats 32000000
namespace Go.Proofs.YtkgjbipfhhjlpaaGreatDoor
section
open Go.RowKit
theorem Jnm:(Tryz.prog.info? 5).map (fun i=>(i.zero,i.size,i.bytes))=some (some (.int .u8 0),1,1):=by kernel_rfl
theorem JfI:(Tryz.prog.info? 27).map (·.size)=some 17:=by kernel_rfl
theorem JkT (A:Option Addr)(m c:Nat)(l:List Int)(w:World)(hr:Ji w A m c l)(hm:m≤1000000):Calls Tryz.prog 10 #[.slice A m c] w (J4 w l):=by
 obtain rfl:=hr.len
 go_enter Tryz.func10,Tryz.ntmps10
 go_wp2_with (at_builtin;refine Jt.of ?_)
 refine Jt.mk ?_
 refine JH _ rfl _ _ 22 rfl 5 w.heap.size Tryz.underlying22 Jnm none 0 0 [] rfl (JF.nil _ _ _) A l.length c l rfl hr (by omega) (Jpf _) ?_
 intro oa' cap' w' ho hg hd
 simp only[Nat.zero_add,List.nil_append] at ho⊢
 have hb:Below w.heap.size w w':=Below.grown (Jpd _ _) hg (Jpf _) (fun k hk=>by simp at hk)
 clear hg hd
 go_wp2_with fail
 go_ret
 exact .mk ho rfl hb
theorem Jmm (A:Option Addr)(m c:Nat)(A2:Option Addr)(c2:Nat)(l:List Int)(w:World)(hr:Ji w A m c l)(hr2:Ji w A2 m c2 l)(hm:m≤1000000):Calls Tryz.prog 14 #[.slice A m c,.slice A2 m c2] w (Jh w (.bool true)):=by
 have HR:=Jpa hr
 have HR2:=Jpa hr2
 clear hr hr2
 go_enter Tryz.func14,Tryz.ntmps14
 go_wp2_with fail
 go_loopg [5] m (fun g u5 wr=>∃k:Nat,k+g=m∧u5=.int .i64 k∧Hid (Ji wr A m c l)∧Hid (Ji wr A2 m c2 l)∧Hid (Below w.heap.size w wr))
 case atStart=>exact⟨0,by omega,rfl,HR,HR2,Jpa (Jpd _ _)⟩
 case round=>
  obtain⟨k,hk,rfl,HA,HB,HW⟩:=hrel
  by_cases hlt:k<m
  ·obtain⟨g1,o1,rfl,hg1,hc1⟩:=HA.out.here (by omega)
   obtain⟨g2,o2,rfl,hg2,hc2⟩:=HB.out.here (by omega)
   have hx1:=hc1 k hlt
   have hx2:=hc2 k hlt
   have hle1:=HA.out.le
   have hle2:=HB.out.le
   clear hc1 hc2
   generalize l.getD k 0=x at*
   go_wp2_with fail
   go_region
   go_wp2_with fail
   go_roundg (m-(k+1))
   case measure=>omega
   case rel=>exact⟨k+1,by omega,by go_num,Jpa HA.out.drew,Jpa HB.out.drew,Jpa HW.out.drew⟩
  ·go_wp2_with fail
   go_ret
   exact .mk rfl HW.out
def Jn (six:Bool)(B:Nat→Int):List Int:=(List.range (JfG six).toNat).map B
theorem J5 (six:Bool)(B:Nat→Int):(Jn six B).length=(JfG six).toNat:=by simp[Jn]
theorem Jim (six:Bool)(B:Nat→Int)(i:Nat)(h:i<(JfG six).toNat):(Jn six B).getD i 0=B i:=by simp[Jn,List.getD_eq_getElem?_getD,h]
theorem Joi (six:Bool):∃z:Nat,JfG six=z∧4≤z∧z≤16∧(JfG six).toNat=z:=by
 cases six
 ·exact⟨4,rfl,by omega,by omega,rfl⟩
 ·exact⟨16,rfl,by omega,by omega,rfl⟩
theorem bytes_any (six:Bool)(B:Nat→Int)(w:World):Calls Tryz.prog 64 #[adV six B] w (J4 w (Jn six B)):=by
 have HX:Hid (JZ (w.alloc (.cells (Jpm six B) 27)) w.heap.size 27 six B):=Jpa (JZ.made w _ six B)
 have HW:Hid (Below w.heap.size w (w.alloc (.cells (Jpm six B) 27))):=Jpa (Below.all (Jpd w.heap.size w) _)
 have HS:=Jpa (fun w=>JaW six B w)
 have HL:=Jpa (J5 six B)
 have HGT:=Jpa (fun i h=>Jim six B i h)
 obtain⟨z,hz,hz4,hz16,hzn⟩:=Joi six
 rw[hz] at HS
 rw[hzn] at HL HGT
 clear hz hzn
 generalize Jn six B=l at*
 unfold adV at*
 go_enter Tryz.func64,Tryz.ntmps64
 go_wp2_with fail
 generalize w.alloc (.cells (Jpm six B) 27)=w1 at*
 refine Jpc (HS.out _) ?_
 rintro e w2 ⟨rfl,hb2⟩
 have HX2:=Jpa (HX.out.below hb2)
 have HW2:=Jpa (Jo3 HW.out hb2)
 have hz16':(z:Int)≤16:=by omega
 have hne:¬(16=0):=by omega
 clear hb2 HX HW
 go_wp2_with fail
 refine Jpc (Tryz.bytes_Clone_at ⟨w.heap.size,1,none⟩ z 16 l w2 HL.out (by omega) (fun i hi=>by
  rw[Addr.add_lit,HGT.out i hi]
  exact HX2.out.cell i (by omega))) ?_
 rintro e w3 ⟨v',rfl,hrow,-,hb3⟩
 obtain⟨oa,cap,rfl,hO⟩:=JF.of_row hrow
 have HO:=Jpa (hO.mono HW2.out.size)
 have HW3:=Jpa (Jo3 HW2.out hb3)
 clear hrow hO hb3
 go_wp2_with fail
 go_ret
 exact .mk HO.out HL.out.symm HW3.out
def JM (l:List Int)(i:Nat):Int:=l.getD i 0
def Jdd (l:List Int):Value:=if l.length=16 then .tuple #[adV true (JM l),.int .i64 0] else if l.length=4 then .tuple #[adV false (JM l),.int .i64 0] else .tuple #[adV false fun _=>0,.int .i64 2]
theorem Jdk {l:List Int}{n:Nat}(h:l.length=n)(i:Nat)(hi:n≤i):JM l i=0:=by
 unfold JM
 rw[List.getD_eq_getElem?_getD,List.getElem?_eq_none (by omega)];rfl
theorem JbQ {l:List Int}(h:l.length=16):Jdd l=.tuple #[adV true (JM l),.int .i64 0]:=by unfold Jdd;rw[if_pos h]
theorem JdH {l:List Int}(h:l.length=4):Jdd l=.tuple #[adV false (JM l),.int .i64 0]:=by unfold Jdd;rw[if_neg (by omega),if_pos h]
theorem Jjh {l:List Int}(h:l.length≠16)(h':l.length≠4):Jdd l=.tuple #[adV false fun _=>0,.int .i64 2]:=by unfold Jdd;rw[if_neg h,if_neg h']
theorem JkU (n:Nat){P:Program}{ops:Array Oper}{Q:Exit→Act→World→Prop}{op:Op}{ty:TypeId}{pos:String}{after:Array Edge}{g:Option (Nat×Bool)}{rest:List Oper}{a:Act}{w:World}
 (h:Jt (wpList P ops Q (⟨some n,op,ty,pos,after,g⟩::rest) a w)):wpList P ops Q (⟨some n,op,ty,pos,after,g⟩::rest) a w:=h
theorem Jnn (A:Option Addr)(c:Nat)(l:List Int)(w:World)(hr:Ji w A 16 c l):Calls Tryz.prog 140 #[.slice A 16 c] w (Jh w (Jdd l)):=by
 rw[JbQ hr.len]
 have HF:=Jpa (fun i h=>Jdk hr.len i h)
 have HS:=Jpa (fun w=>JaW true (fun _=>0) w)
 rw[show JfG true=16 from rfl] at HS
 obtain⟨g,off,rfl,hg,hc⟩:=hr.here (by omega)
 have HC:Hid (∀j,j<16→w.cell? ⟨g,off+j,none⟩=some (.int .u8 (JM l j))):=Jpa hc
 have HB:=Jpa (show Below w.heap.size w ((w.alloc (.cells (Jpo false) 27)).alloc (.cells (Jpo true) 27)) from Below.all (Below.all (Jpd _ _) _) _)
 clear hr hc
 unfold adV at HS
 go_enter Tryz.func140,Tryz.ntmps140
 go_wp2_with fail
 refine Jpc (HS.out _) ?_
 rintro e w2 ⟨rfl,hb2⟩
 have hX0:=(hb2.block _ (by simp;omega)).trans (heap_alloc2_old w (.cells (Jpo false) 27) (.cells (Jpo true) 27))
 have hY0:=(hb2.block _ (by simp)).trans (heap_alloc2_new w (.cells (Jpo false) 27) (.cells (Jpo true) 27))
 have HW2:=Jpa (Jo3 HB.out hb2)
 have hs2:w.heap.size+1<w2.heap.size:=by have:=hb2.size;simp at this;omega
 clear hb2 HB HS
 go_wp2_with (with_reducible refine JkU 18 ?_)
 refine Jt.mk ?_
 refine wpList_copy_splice rfl (.tmp 16) (.tmp 17) 22 22 rfl 5 Tryz.underlying22 (by kernel_rfl) (some ⟨w.heap.size+1,1,none⟩) (some ⟨g,off,none⟩) 16 16 16 c rfl rfl (w.heap.size+1) 1
  (.bool true::List.replicate 16 (.int .u8 0)) 27 hY0 (JbO 16 (JM l)) (XA _ _) (fun _=>⟨rfl,_,rfl,fun j v hv=>?_⟩) (by rw[XA];decide) (JaY _ _) (w.heap.size+1) w2 (Jpd _ _) (Jpf _) ?_
 ·obtain⟨hj,rfl⟩:=JaX _ _ _ _ hv
  rw[Addr.add_lit]
  exact(HW2.out.cell (p:=⟨g,off+j,none⟩) hg).trans (HC.out j hj)
 intro w' hg' hb
 have hX1:=(hb.block w.heap.size (by omega)).trans hX0
 have hY1:w'.heap[w.heap.size+1]? =some (.cells (Jpr true (.int .u8 (JM l 0)) (.int .u8 (JM l 1)) (.int .u8 (JM l 2)) (.int .u8 (JM l 3)) (.int .u8 (JM l 4)) (.int .u8 (JM l 5)) (.int .u8 (JM l 6)) (.int .u8 (JM l 7)) (.int .u8 (JM l 8)) (.int .u8 (JM l 9)) (.int .u8 (JM l 10)) (.int .u8 (JM l 11)) (.int .u8 (JM l 12)) (.int .u8 (JM l 13)) (.int .u8 (JM l 14)) (.int .u8 (JM l 15))) 27 (0,0)):=hg'.out
 have hpp:Jf w' (w.heap.size+1) 0 17=(Jpr true (.int .u8 (JM l 0)) (.int .u8 (JM l 1)) (.int .u8 (JM l 2)) (.int .u8 (JM l 3)) (.int .u8 (JM l 4)) (.int .u8 (JM l 5)) (.int .u8 (JM l 6)) (.int .u8 (JM l 7)) (.int .u8 (JM l 8)) (.int .u8 (JM l 9)) (.int .u8 (JM l 10)) (.int .u8 (JM l 11)) (.int .u8 (JM l 12)) (.int .u8 (JM l 13)) (.int .u8 (JM l 14)) (.int .u8 (JM l 15)):Array Value):=by rw[Jq _ _ _ _ _ _ _ hY1];simp
 have hrr:=(JZ.mk (six:=false) (B:=fun _=>(0:Int)) hX1).row
 have HH:=Jpa hX1
 have HB3:Hid (Below w.heap.size w w'):=Jpa (HW2.out.trans (hb.mono (by omega)))
 clear hX0 hY0 hg' hb hX1 hY1 hs2 HW2
 go_wp2_with fail
 refine bodyPost_ret (v:=.tuple #[adV true (JM l),.int .i64 0]) ?_ rfl (.mk rfl (below_setRow HB3.out (Jpf _) _))
 refine J0 _ _ Tryz.underlying27 JfI rfl _ _ w.heap.size (.int .i64 0) rfl rfl ?_
 exact Xa HH.out
theorem JnZ (A:Option Addr)(c:Nat)(l:List Int)(w:World)(hr:Ji w A 4 c l):Calls Tryz.prog 140 #[.slice A 4 c] w (Jh w (Jdd l)):=by
 rw[JdH hr.len]
 have HF:=Jpa (fun i h=>Jdk hr.len i h)
 have HS:=Jpa (fun w=>JaW false (fun _=>0) w)
 rw[show JfG false=4 from rfl] at HS
 obtain⟨g,off,rfl,hg,hc⟩:=hr.here (by omega)
 have HC:Hid (∀j,j<4→w.cell? ⟨g,off+j,none⟩=some (.int .u8 (JM l j))):=Jpa hc
 have HB:=Jpa (show Below w.heap.size w ((w.alloc (.cells (Jpo false) 27)).alloc (.cells (Jpo false) 27)) from Below.all (Below.all (Jpd _ _) _) _)
 clear hr hc
 unfold adV at HS
 go_enter Tryz.func140,Tryz.ntmps140
 go_wp2_with fail
 refine Jpc (HS.out _) ?_
 rintro e w2 ⟨rfl,hb2⟩
 have hX0:=(hb2.block _ (by simp;omega)).trans (heap_alloc2_old w (.cells (Jpo false) 27) (.cells (Jpo false) 27))
 have hY0:=(hb2.block _ (by simp)).trans (heap_alloc2_new w (.cells (Jpo false) 27) (.cells (Jpo false) 27))
 have HW2:=Jpa (Jo3 HB.out hb2)
 have hs2:w.heap.size+1<w2.heap.size:=by have:=hb2.size;simp at this;omega
 clear hb2 HB HS
 go_wp2_with (with_reducible refine JkU 18 ?_)
 refine Jt.mk ?_
 refine wpList_copy_splice rfl (.tmp 16) (.tmp 17) 22 22 rfl 5 Tryz.underlying22 (by kernel_rfl) (some ⟨w.heap.size+1,1,none⟩) (some ⟨g,off,none⟩) 16 16 4 c rfl rfl (w.heap.size+1) 1
  (.bool false::List.replicate 16 (.int .u8 0)) 27 hY0 (JbO 4 (JM l)) (XA _ _) (fun _=>⟨rfl,_,rfl,fun j v hv=>?_⟩) (by rw[XA];decide) (JaY _ _) (w.heap.size+1) w2 (Jpd _ _) (Jpf _) ?_
 ·obtain⟨hj,rfl⟩:=JaX _ _ _ _ hv
  rw[Addr.add_lit]
  exact(HW2.out.cell (p:=⟨g,off+j,none⟩) hg).trans (HC.out j hj)
 intro w' hg' hb
 have hX1:=(hb.block w.heap.size (by omega)).trans hX0
 have hY1:w'.heap[w.heap.size+1]? =some (.cells (Jp8 false (.int .u8 (JM l 0)) (.int .u8 (JM l 1)) (.int .u8 (JM l 2)) (.int .u8 (JM l 3))) 27 (0,0)):=hg'.out
 have hpp:Jf w' (w.heap.size+1) 0 17=(Jp8 false (.int .u8 (JM l 0)) (.int .u8 (JM l 1)) (.int .u8 (JM l 2)) (.int .u8 (JM l 3)):Array Value):=by rw[Jq _ _ _ _ _ _ _ hY1];simp
 have hrr:=(JZ.mk (six:=false) (B:=fun _=>(0:Int)) hX1).row
 have HH:=Jpa hX1
 have HB3:Hid (Below w.heap.size w w'):=Jpa (HW2.out.trans (hb.mono (by omega)))
 clear hX0 hY0 hg' hb hX1 hY1 hs2 HW2
 go_wp2_with fail
 refine bodyPost_ret (v:=.tuple #[adV false (JM l),.int .i64 0]) ?_ rfl (.mk rfl (below_setRow HB3.out (Jpf _) _))
 refine J0 _ _ Tryz.underlying27 JfI rfl _ _ w.heap.size (.int .i64 0) rfl rfl ?_
 rw[Xa HH.out]
 rw[HF.out 4 (by omega),HF.out 5 (by omega),HF.out 6 (by omega),HF.out 7 (by omega),HF.out 8 (by omega),HF.out 9 (by omega),HF.out 10 (by omega),HF.out 11 (by omega),HF.out 12 (by omega),HF.out 13 (by omega),HF.out 14 (by omega),HF.out 15 (by omega)]
theorem Jno (A:Option Addr)(n c:Nat)(l:List Int)(w:World)(hr:Ji w A n c l)(hm:n≤1000000)(h16:n≠16)(h4:n≠4):Calls Tryz.prog 140 #[.slice A n c] w (Jh w (Jdd l)):=by
 rw[Jjh (by rw[hr.len];exact h16) (by rw[hr.len];exact h4)]
 have HS:=Jpa (fun w=>JaW false (fun _=>0) w)
 rw[show JfG false=4 from rfl] at HS
 have HB:=Jpa (show Below w.heap.size w ((w.alloc (.cells (Jpo false) 27)).alloc (.cells (Jpo false) 27)) from Below.all (Below.all (Jpd _ _) _) _)
 have hn1:((n:Int)==16)=false:=by simp;omega
 have hn2:¬((n:Int)=4):=by omega
 clear hr
 unfold adV at HS
 go_enter Tryz.func140,Tryz.ntmps140
 go_wp2_with fail
 refine Jpc (HS.out _) ?_
 rintro e w2 ⟨rfl,hb2⟩
 have hX0:=(hb2.block _ (by simp;omega)).trans (heap_alloc2_old w (.cells (Jpo false) 27) (.cells (Jpo false) 27))
 have hrr:=(JZ.mk (six:=false) (B:=fun _=>(0:Int)) hX0).row
 have HH:=Jpa hX0
 have HW2:=Jpa (Jo3 HB.out hb2)
 clear hb2 HB HS hX0
 go_wp2_with fail
 exact bodyPost_ret (v:=.tuple #[adV false fun _=>0,.int .i64 2]) (J0 _ _ Tryz.underlying27 JfI rfl _ _ w.heap.size (.int .i64 2) rfl rfl (Xa HH.out)) rfl (.mk rfl (below_setRow HW2.out (Jpf _) _))
theorem Jdl (A:Option Addr)(n c:Nat)(l:List Int)(w:World)(hr:Ji w A n c l)(hm:n≤1000000):Calls Tryz.prog 140 #[.slice A n c] w (Jh w (Jdd l)):=by
 by_cases h16:n=16
 ·subst h16;exact Jnn A c l w hr
 ·by_cases h4:n=4
  ·subst h4;exact JnZ A c l w hr
  ·exact Jno A n c l w hr hm h16 h4
theorem Jmn (A:Option Addr)(c:Nat)(l:List Int)(w:World)(hr:Ji w A 16 c l):Calls Tryz.prog 145 #[.slice A 16 c] w (Jh w (.tuple #[adV true (JM l),.int .i64 0])):=by
 have HFL:=Jpa (fun i (hi:16≤i)=>Jdk hr.len i hi)
 obtain⟨g,off,rfl,hgl,-⟩:=hr.here (by omega)
 have HB:=Jpa (show Below w.heap.size w ((w.alloc (.cells (Jpo false) 36)).alloc (.cells (Jpo true) 36)) from Below.all (Below.all (Jpd _ _) _) _)
 have HX:Hid (JZ ((w.alloc (.cells (Jpo false) 36)).alloc (.cells (Jpo true) 36)) w.heap.size 36 false fun _=>0):=Jpa ⟨heap_alloc2_old w (.cells (Jpo false) 36) (.cells (Jpo true) 36)⟩
 have HY:Hid (JZ ((w.alloc (.cells (Jpo false) 36)).alloc (.cells (Jpo true) 36)) (w.heap.size+1) 36 true fun _=>0):=Jpa ⟨heap_alloc2_new w (.cells (Jpo false) 36) (.cells (Jpo true) 36)⟩
 have HR2:=Jpa ((hr.alloc (.cells (Jpo false) 36)).alloc (.cells (Jpo true) 36))
 clear hr
 go_enter Tryz.func145,Tryz.ntmps145
 go_wp2_with fail
 generalize (w.alloc (.cells (Jpo false) 36)).alloc (.cells (Jpo true) 36)=w1 at*
 go_loopw [5] (fun u5 wr=>∃k:Nat,k≤16∧u5=.int .i64 k∧Hid (JZ wr w.heap.size 36 false fun _=>0)∧Hid (JZ wr (w.heap.size+1) 36 true (fun j=>if j<k then JM l j else 0))∧Hid (Ji wr (some ⟨g,off,none⟩) 16 c l)∧Hid (Below w.heap.size w wr)) (fun u5 _=>(16:Int)-intOf u5 |>.toNat)
 case atStart=>exact⟨0,by omega,rfl,HX,Jpa (HY.out.congr fun i _=>by simp),HR2,HB⟩
 case round=>
  obtain⟨k,hk,rfl,HX,HY,HR,HW⟩:=hrel
  by_cases hlt:k<16
  ·obtain⟨g',off',hA,hg,hc⟩:=HR.out.here (by omega)
   obtain⟨rfl,rfl⟩:g=g'∧off=off':=by simpa using hA
   have hcl:=hc k hlt
   have hle:=HR.out.le
   have hcx:=HY.out.cell k (by omega)
   have hfx:=HY.out.free (1+k)
   have HV:Hid (l.getD k 0=JM l k):=Jpa rfl
   clear hc hA
   generalize l.getD k 0=x at*
   go_wp2_with fail
   go_roundw
   case rel=>
    refine⟨k+1,by omega,by go_num,Jpa (HX.out.other _ _ (by simp only;omega)),Jpa ((HY.out.set k (by omega) x).congr fun i hi=>?_),Jpa (HR.out.other (fun a ha=>by cases ha;simp only;omega) _),Jpa (HW.out.setCell (by simp only;omega) _)⟩
    by_cases e:i=k
    ·subst e;simp[HV.out]
    ·simp only[if_neg e]
     by_cases h:i<k
     ·rw[if_pos h,if_pos (by omega)]
     ·rw[if_neg h,if_neg (by omega)]
   case measure=>simp[intOf];omega
  ·obtain rfl:k=16:=by omega
   have HZ:=HY.out.congr (C:=JM l) fun i hi=>by
    by_cases h:i<16
    ·rw[if_pos h]
    ·rw[if_neg h,HFL.out i (by omega)]
   have hpp:=HZ.part
   have hrr:=HX.out.row
   have HH:=Jpa HX.out.heap
   clear HZ
   go_wp2_with fail
   exact bodyPost_ret (v:=.tuple #[adV true (JM l),.int .i64 0]) (J0 _ _ Tryz.underlying36 JbP rfl _ _ w.heap.size (.int .i64 0) rfl rfl (Xa HH.out)) rfl (.mk rfl (below_setRow HW.out (Jpf _) _))
theorem Jnp (A:Option Addr)(c:Nat)(l:List Int)(w:World)(hr:Ji w A 4 c l):Calls Tryz.prog 145 #[.slice A 4 c] w (Jh w (.tuple #[adV false (JM l),.int .i64 0])):=by
 have HFL:=Jpa (fun i (hi:4≤i)=>Jdk hr.len i hi)
 obtain⟨g,off,rfl,hgl,-⟩:=hr.here (by omega)
 have HB:=Jpa (show Below w.heap.size w ((w.alloc (.cells (Jpo false) 36)).alloc (.cells (Jpo false) 36)) from Below.all (Below.all (Jpd _ _) _) _)
 have HX:Hid (JZ ((w.alloc (.cells (Jpo false) 36)).alloc (.cells (Jpo false) 36)) w.heap.size 36 false fun _=>0):=Jpa ⟨heap_alloc2_old w (.cells (Jpo false) 36) (.cells (Jpo false) 36)⟩
 have HY:Hid (JZ ((w.alloc (.cells (Jpo false) 36)).alloc (.cells (Jpo false) 36)) (w.heap.size+1) 36 false fun _=>0):=Jpa ⟨heap_alloc2_new w (.cells (Jpo false) 36) (.cells (Jpo false) 36)⟩
 have HR2:=Jpa ((hr.alloc (.cells (Jpo false) 36)).alloc (.cells (Jpo false) 36))
 clear hr
 go_enter Tryz.func145,Tryz.ntmps145
 go_wp2_with fail
 generalize (w.alloc (.cells (Jpo false) 36)).alloc (.cells (Jpo false) 36)=w1 at*
 go_loopw [5] (fun u5 wr=>∃k:Nat,k≤4∧u5=.int .i64 k∧Hid (JZ wr w.heap.size 36 false fun _=>0)∧Hid (JZ wr (w.heap.size+1) 36 false (fun j=>if j<k then JM l j else 0))∧Hid (Ji wr (some ⟨g,off,none⟩) 4 c l)∧Hid (Below w.heap.size w wr)) (fun u5 _=>(4:Int)-intOf u5 |>.toNat)
 case atStart=>exact⟨0,by omega,rfl,HX,Jpa (HY.out.congr fun i _=>by simp),HR2,HB⟩
 case round=>
  obtain⟨k,hk,rfl,HX,HY,HR,HW⟩:=hrel
  by_cases hlt:k<4
  ·obtain⟨g',off',hA,hg,hc⟩:=HR.out.here (by omega)
   obtain⟨rfl,rfl⟩:g=g'∧off=off':=by simpa using hA
   have hcl:=hc k hlt
   have hle:=HR.out.le
   have hcx:=HY.out.cell k (by omega)
   have hfx:=HY.out.free (1+k)
   have HV:Hid (l.getD k 0=JM l k):=Jpa rfl
   clear hc hA
   generalize l.getD k 0=x at*
   go_wp2_with fail
   go_roundw
   case rel=>
    refine⟨k+1,by omega,by go_num,Jpa (HX.out.other _ _ (by simp only;omega)),Jpa ((HY.out.set k (by omega) x).congr fun i hi=>?_),Jpa (HR.out.other (fun a ha=>by cases ha;simp only;omega) _),Jpa (HW.out.setCell (by simp only;omega) _)⟩
    by_cases e:i=k
    ·subst e;simp[HV.out]
    ·simp only[if_neg e]
     by_cases h:i<k
     ·rw[if_pos h,if_pos (by omega)]
     ·rw[if_neg h,if_neg (by omega)]
   case measure=>simp[intOf];omega
  ·obtain rfl:k=4:=by omega
   have HZ:=HY.out.congr (C:=JM l) fun i hi=>by
    by_cases h:i<4
    ·rw[if_pos h]
    ·rw[if_neg h,HFL.out i (by omega)]
   have hpp:=HZ.part
   have hrr:=HX.out.row
   have HH:=Jpa HX.out.heap
   clear HZ
   go_wp2_with fail
   exact bodyPost_ret (v:=.tuple #[adV false (JM l),.int .i64 0]) (J0 _ _ Tryz.underlying36 JbP rfl _ _ w.heap.size (.int .i64 0) rfl rfl (Xa HH.out)) rfl (.mk rfl (below_setRow HW.out (Jpf _) _))
theorem Jmo (A:Option Addr)(n c:Nat)(l:List Int)(w:World)(hr:Ji w A n c l)(hm:n≤1000000)(h16:n≠16)(h4:n≠4):Calls Tryz.prog 145 #[.slice A n c] w (Jh w (Jdd l)):=by
 rw[Jjh (by rw[hr.len];exact h16) (by rw[hr.len];exact h4)]
 have HB:=Jpa (show Below w.heap.size w ((w.alloc (.cells (Jpo false) 36)).alloc (.cells (Jpo false) 36)) from Below.all (Below.all (Jpd _ _) _) _)
 have HX:JZ ((w.alloc (.cells (Jpo false) 36)).alloc (.cells (Jpo false) 36)) w.heap.size 36 false fun _=>0:=⟨heap_alloc2_old w (.cells (Jpo false) 36) (.cells (Jpo false) 36)⟩
 have HX:=Jpa HX
 have hn1:((n:Int)==16)=false:=by simp;omega
 have hn2:¬((n:Int)=4):=by omega
 have hn3:¬((n:Int)=16):=by omega
 have hn5:((n:Int) != 16)=true:=by simp;omega
 have hn6:((n:Int) != 4)=true:=by simp;omega
 clear hr
 go_enter Tryz.func145,Tryz.ntmps145
 go_wp2_with fail
 exact bodyPost_ret (v:=.tuple #[adV false fun _=>0,.int .i64 2]) (J0 _ _ Tryz.underlying36 JbP rfl _ _ w.heap.size (.int .i64 2) rfl rfl HX.out.part) rfl (.mk rfl HB.out)
theorem JgV (A:Option Addr)(n c:Nat)(l:List Int)(w:World)(hr:Ji w A n c l)(hm:n≤1000000):Calls Tryz.prog 145 #[.slice A n c] w (Jh w (Jdd l)):=by
 by_cases h16:n=16
 ·rw[JbQ (by rw[hr.len];exact h16)];subst h16;exact Jmn A c l w hr
 ·by_cases h4:n=4
  ·rw[JdH (by rw[hr.len];exact h4)];subst h4;exact Jnp A c l w hr
  ·exact Jmo A n c l w hr hm h16 h4
end
end Go.Proofs.YtkgjbipfhhjlpaaGreatDoor
