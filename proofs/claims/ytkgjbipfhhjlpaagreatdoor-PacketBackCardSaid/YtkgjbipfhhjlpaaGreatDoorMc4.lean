import Derived.Test.YtkgjbipfhhjlpaaGreatDoorMc2
import Derived.Test.YtkgjbipfhhjlpaaGreatDoorMc3
import Derived.Lib.BytesEntry
set_option linter.unusedVariables false
set_option linter.unusedSimpArgs false
set_option maxRecDepth 100000
set_option maxHeartbeats 32000000
namespace Go.Proofs.YtkgjbipfhhjlpaaGreatDoor
section
open Go.RowKit
theorem JmQ:(Tryz.prog.info? 5).map (fun i=>(i.zero,i.size,i.bytes))=some (some (.int .u8 0),1,1):=by kernel_rfl
theorem Jfq:(Tryz.prog.info? 27).map (·.size)=some 17:=by kernel_rfl
theorem Jkk (A:Option Addr)(m c:Nat)(l:List Int)(w:World)(hr:Jg w A m c l)(hm:m≤1000000):Calls Tryz.prog 10 #[.slice A m c] w (JT w l):=by
 obtain rfl:=hr.len
 go_enter Tryz.func10,Tryz.ntmps10
 go_wp2_with (at_builtin;refine JC.of ?_)
 refine JC.mk ?_
 refine JD _ rfl _ _ 22 rfl 5 w.heap.size Tryz.underlying22 JmQ none 0 0 [] rfl (JQ.nil _ _ _) A l.length c l rfl hr (by omega) (JoQ _) ?_
 intro oa' cap' w' ho hg hd
 simp only[Nat.zero_add,List.nil_append] at ho⊢
 have hb:Below w.heap.size w w':=Below.grown (JoO _ _) hg (JoQ _) (fun k hk=>by simp at hk)
 clear hg hd
 go_wp2_with fail
 go_ret
 exact .mk ho rfl hb
def Jc (six:Bool)(B:Nat→Int):List Int:=(List.range (JbU six).toNat).map B
theorem Jm (six:Bool)(B:Nat→Int):(Jc six B).length=(JbU six).toNat:=by simp[Jc]
theorem JdI (six:Bool)(B:Nat→Int)(i:Nat)(h:i<(JbU six).toNat):(Jc six B).getD i 0=B i:=by simp[Jc,List.getD_eq_getElem?_getD,h]
theorem JnS (six:Bool):∃z:Nat,JbU six=z∧4≤z∧z≤16∧(JbU six).toNat=z:=by
 cases six
 ·exact⟨4,rfl,by omega,by omega,rfl⟩
 ·exact⟨16,rfl,by omega,by omega,rfl⟩
theorem bytes_any (six:Bool)(B:Nat→Int)(w:World):Calls Tryz.prog 64 #[adV six B] w (JT w (Jc six B)):=by
 have HX:Hid (J6 (w.alloc (.cells (JoX six B) 27)) w.heap.size 27 six B):=JoL (J6.made w _ six B)
 have HW:Hid (Below w.heap.size w (w.alloc (.cells (JoX six B) 27))):=JoL (Below.all (JoO w.heap.size w) _)
 have HS:=JoL (fun w=>Ja9 six B w)
 have HL:=JoL (Jm six B)
 have HGT:=JoL (fun i h=>JdI six B i h)
 obtain⟨z,hz,hz4,hz16,hzn⟩:=JnS six
 rw[hz] at HS
 rw[hzn] at HL HGT
 clear hz hzn
 generalize Jc six B=l at*
 unfold adV at*
 go_enter Tryz.func64,Tryz.ntmps64
 go_wp2_with fail
 generalize w.alloc (.cells (JoX six B) 27)=w1 at*
 refine JoN (HS.out _) ?_
 rintro e w2 ⟨rfl,hb2⟩
 have HX2:=JoL (HX.out.below hb2)
 have HW2:=JoL (JoE HW.out hb2)
 have hz16':(z:Int)≤16:=by omega
 have hne:¬(16=0):=by omega
 clear hb2 HX HW
 go_wp2_with fail
 refine JoN (Tryz.bytes_Clone_at ⟨w.heap.size,1,none⟩ z 16 l w2 HL.out (by omega) (fun i hi=>by
  rw[Addr.add_lit,HGT.out i hi]
  exact HX2.out.cell i (by omega))) ?_
 rintro e w3 ⟨v',rfl,hrow,-,hb3⟩
 obtain⟨oa,cap,rfl,hO⟩:=JQ.of_row hrow
 have HO:=JoL (hO.mono HW2.out.size)
 have HW3:=JoL (JoE HW2.out hb3)
 clear hrow hO hb3
 go_wp2_with fail
 go_ret
 exact .mk HO.out HL.out.symm HW3.out
def JX (l:List Int)(i:Nat):Int:=l.getD i 0
def JeD (l:List Int):Value:=if l.length=16 then .tuple #[adV true (JX l),.int .i64 0] else if l.length=4 then .tuple #[adV false (JX l),.int .i64 0] else .tuple #[adV false fun _=>0,.int .i64 2]
theorem Jfr {l:List Int}{n:Nat}(h:l.length=n)(i:Nat)(hi:n≤i):JX l i=0:=by
 unfold JX
 rw[List.getD_eq_getElem?_getD,List.getElem?_eq_none (by omega)];rfl
theorem Jfs {l:List Int}(h:l.length=16):JeD l=.tuple #[adV true (JX l),.int .i64 0]:=by unfold JeD;rw[if_pos h]
theorem JhO {l:List Int}(h:l.length=4):JeD l=.tuple #[adV false (JX l),.int .i64 0]:=by unfold JeD;rw[if_neg (by omega),if_pos h]
theorem JlL {l:List Int}(h:l.length≠16)(h':l.length≠4):JeD l=.tuple #[adV false fun _=>0,.int .i64 2]:=by unfold JeD;rw[if_neg h,if_neg h']
theorem Jkl (n:Nat){P:Program}{ops:Array Oper}{Q:Exit→Act→World→Prop}{op:Op}{ty:TypeId}{pos:String}{after:Array Edge}{g:Option (Nat×Bool)}{rest:List Oper}{a:Act}{w:World}
 (h:JC (wpList P ops Q (⟨some n,op,ty,pos,after,g⟩::rest) a w)):wpList P ops Q (⟨some n,op,ty,pos,after,g⟩::rest) a w:=h
theorem JmR (A:Option Addr)(c:Nat)(l:List Int)(w:World)(hr:Jg w A 16 c l):Calls Tryz.prog 140 #[.slice A 16 c] w (Jj w (JeD l)):=by
 rw[Jfs hr.len]
 have HF:=JoL (fun i h=>Jfr hr.len i h)
 have HS:=JoL (fun w=>Ja9 true (fun _=>0) w)
 rw[show JbU true=16 from rfl] at HS
 obtain⟨g,off,rfl,hg,hc⟩:=hr.here (by omega)
 have HC:Hid (∀j,j<16→w.cell? ⟨g,off+j,none⟩=some (.int .u8 (JX l j))):=JoL hc
 have HB:=JoL (show Below w.heap.size w ((w.alloc (.cells (Jpa false) 27)).alloc (.cells (Jpa true) 27)) from Below.all (Below.all (JoO _ _) _) _)
 clear hr hc
 unfold adV at HS
 go_enter Tryz.func140,Tryz.ntmps140
 go_wp2_with fail
 refine JoN (HS.out _) ?_
 rintro e w2 ⟨rfl,hb2⟩
 have hX0:=(hb2.block _ (by simp;omega)).trans (heap_alloc2_old w (.cells (Jpa false) 27) (.cells (Jpa true) 27))
 have hY0:=(hb2.block _ (by simp)).trans (heap_alloc2_new w (.cells (Jpa false) 27) (.cells (Jpa true) 27))
 have HW2:=JoL (JoE HB.out hb2)
 have hs2:w.heap.size+1<w2.heap.size:=by have:=hb2.size;simp at this;omega
 clear hb2 HB HS
 go_wp2_with (with_reducible refine Jkl 18 ?_)
 refine JC.mk ?_
 refine wpList_copy_splice rfl (.tmp 16) (.tmp 17) 22 22 rfl 5 Tryz.underlying22 (by kernel_rfl) (some ⟨w.heap.size+1,1,none⟩) (some ⟨g,off,none⟩) 16 16 16 c rfl rfl (w.heap.size+1) 1
  (.bool true::List.replicate 16 (.int .u8 0)) 27 hY0 (JbV 16 (JX l)) (Xu _ _) (fun _=>⟨rfl,_,rfl,fun j v hv=>?_⟩) (by rw[Xu];decide) (Jbb _ _) (w.heap.size+1) w2 (JoO _ _) (JoQ _) ?_
 ·obtain⟨hj,rfl⟩:=Jba _ _ _ _ hv
  rw[Addr.add_lit]
  exact(HW2.out.cell (p:=⟨g,off+j,none⟩) hg).trans (HC.out j hj)
 intro w' hg' hb
 have hX1:=(hb.block w.heap.size (by omega)).trans hX0
 have hY1:w'.heap[w.heap.size+1]? =some (.cells (JoZ true (.int .u8 (JX l 0)) (.int .u8 (JX l 1)) (.int .u8 (JX l 2)) (.int .u8 (JX l 3)) (.int .u8 (JX l 4)) (.int .u8 (JX l 5)) (.int .u8 (JX l 6)) (.int .u8 (JX l 7)) (.int .u8 (JX l 8)) (.int .u8 (JX l 9)) (.int .u8 (JX l 10)) (.int .u8 (JX l 11)) (.int .u8 (JX l 12)) (.int .u8 (JX l 13)) (.int .u8 (JX l 14)) (.int .u8 (JX l 15))) 27 (0,0)):=hg'.out
 have hpp:Jb w' (w.heap.size+1) 0 17=(JoZ true (.int .u8 (JX l 0)) (.int .u8 (JX l 1)) (.int .u8 (JX l 2)) (.int .u8 (JX l 3)) (.int .u8 (JX l 4)) (.int .u8 (JX l 5)) (.int .u8 (JX l 6)) (.int .u8 (JX l 7)) (.int .u8 (JX l 8)) (.int .u8 (JX l 9)) (.int .u8 (JX l 10)) (.int .u8 (JX l 11)) (.int .u8 (JX l 12)) (.int .u8 (JX l 13)) (.int .u8 (JX l 14)) (.int .u8 (JX l 15)):Array Value):=by rw[Jl _ _ _ _ _ _ _ hY1];simp
 have hrr:=(J6.mk (six:=false) (B:=fun _=>(0:Int)) hX1).row
 have HH:=JoL hX1
 have HB3:Hid (Below w.heap.size w w'):=JoL (HW2.out.trans (hb.mono (by omega)))
 clear hX0 hY0 hg' hb hX1 hY1 hs2 HW2
 go_wp2_with fail
 refine bodyPost_ret (v:=.tuple #[adV true (JX l),.int .i64 0]) ?_ rfl (.mk rfl (below_setRow HB3.out (JoQ _) _))
 refine Qd _ _ Tryz.underlying27 Jfq rfl _ _ w.heap.size (.int .i64 0) rfl rfl ?_
 exact Z9 HH.out
theorem Jns (A:Option Addr)(c:Nat)(l:List Int)(w:World)(hr:Jg w A 4 c l):Calls Tryz.prog 140 #[.slice A 4 c] w (Jj w (JeD l)):=by
 rw[JhO hr.len]
 have HF:=JoL (fun i h=>Jfr hr.len i h)
 have HS:=JoL (fun w=>Ja9 false (fun _=>0) w)
 rw[show JbU false=4 from rfl] at HS
 obtain⟨g,off,rfl,hg,hc⟩:=hr.here (by omega)
 have HC:Hid (∀j,j<4→w.cell? ⟨g,off+j,none⟩=some (.int .u8 (JX l j))):=JoL hc
 have HB:=JoL (show Below w.heap.size w ((w.alloc (.cells (Jpa false) 27)).alloc (.cells (Jpa false) 27)) from Below.all (Below.all (JoO _ _) _) _)
 clear hr hc
 unfold adV at HS
 go_enter Tryz.func140,Tryz.ntmps140
 go_wp2_with fail
 refine JoN (HS.out _) ?_
 rintro e w2 ⟨rfl,hb2⟩
 have hX0:=(hb2.block _ (by simp;omega)).trans (heap_alloc2_old w (.cells (Jpa false) 27) (.cells (Jpa false) 27))
 have hY0:=(hb2.block _ (by simp)).trans (heap_alloc2_new w (.cells (Jpa false) 27) (.cells (Jpa false) 27))
 have HW2:=JoL (JoE HB.out hb2)
 have hs2:w.heap.size+1<w2.heap.size:=by have:=hb2.size;simp at this;omega
 clear hb2 HB HS
 go_wp2_with (with_reducible refine Jkl 18 ?_)
 refine JC.mk ?_
 refine wpList_copy_splice rfl (.tmp 16) (.tmp 17) 22 22 rfl 5 Tryz.underlying22 (by kernel_rfl) (some ⟨w.heap.size+1,1,none⟩) (some ⟨g,off,none⟩) 16 16 4 c rfl rfl (w.heap.size+1) 1
  (.bool false::List.replicate 16 (.int .u8 0)) 27 hY0 (JbV 4 (JX l)) (Xu _ _) (fun _=>⟨rfl,_,rfl,fun j v hv=>?_⟩) (by rw[Xu];decide) (Jbb _ _) (w.heap.size+1) w2 (JoO _ _) (JoQ _) ?_
 ·obtain⟨hj,rfl⟩:=Jba _ _ _ _ hv
  rw[Addr.add_lit]
  exact(HW2.out.cell (p:=⟨g,off+j,none⟩) hg).trans (HC.out j hj)
 intro w' hg' hb
 have hX1:=(hb.block w.heap.size (by omega)).trans hX0
 have hY1:w'.heap[w.heap.size+1]? =some (.cells (JpC false (.int .u8 (JX l 0)) (.int .u8 (JX l 1)) (.int .u8 (JX l 2)) (.int .u8 (JX l 3))) 27 (0,0)):=hg'.out
 have hpp:Jb w' (w.heap.size+1) 0 17=(JpC false (.int .u8 (JX l 0)) (.int .u8 (JX l 1)) (.int .u8 (JX l 2)) (.int .u8 (JX l 3)):Array Value):=by rw[Jl _ _ _ _ _ _ _ hY1];simp
 have hrr:=(J6.mk (six:=false) (B:=fun _=>(0:Int)) hX1).row
 have HH:=JoL hX1
 have HB3:Hid (Below w.heap.size w w'):=JoL (HW2.out.trans (hb.mono (by omega)))
 clear hX0 hY0 hg' hb hX1 hY1 hs2 HW2
 go_wp2_with fail
 refine bodyPost_ret (v:=.tuple #[adV false (JX l),.int .i64 0]) ?_ rfl (.mk rfl (below_setRow HB3.out (JoQ _) _))
 refine Qd _ _ Tryz.underlying27 Jfq rfl _ _ w.heap.size (.int .i64 0) rfl rfl ?_
 rw[Z9 HH.out]
 rw[HF.out 4 (by omega),HF.out 5 (by omega),HF.out 6 (by omega),HF.out 7 (by omega),HF.out 8 (by omega),HF.out 9 (by omega),HF.out 10 (by omega),HF.out 11 (by omega),HF.out 12 (by omega),HF.out 13 (by omega),HF.out 14 (by omega),HF.out 15 (by omega)]
theorem JmS (A:Option Addr)(n c:Nat)(l:List Int)(w:World)(hr:Jg w A n c l)(hm:n≤1000000)(h16:n≠16)(h4:n≠4):Calls Tryz.prog 140 #[.slice A n c] w (Jj w (JeD l)):=by
 rw[JlL (by rw[hr.len];exact h16) (by rw[hr.len];exact h4)]
 have HS:=JoL (fun w=>Ja9 false (fun _=>0) w)
 rw[show JbU false=4 from rfl] at HS
 have HB:=JoL (show Below w.heap.size w ((w.alloc (.cells (Jpa false) 27)).alloc (.cells (Jpa false) 27)) from Below.all (Below.all (JoO _ _) _) _)
 have hn1:((n:Int)==16)=false:=by simp;omega
 have hn2:¬((n:Int)=4):=by omega
 clear hr
 unfold adV at HS
 go_enter Tryz.func140,Tryz.ntmps140
 go_wp2_with fail
 refine JoN (HS.out _) ?_
 rintro e w2 ⟨rfl,hb2⟩
 have hX0:=(hb2.block _ (by simp;omega)).trans (heap_alloc2_old w (.cells (Jpa false) 27) (.cells (Jpa false) 27))
 have hrr:=(J6.mk (six:=false) (B:=fun _=>(0:Int)) hX0).row
 have HH:=JoL hX0
 have HW2:=JoL (JoE HB.out hb2)
 clear hb2 HB HS hX0
 go_wp2_with fail
 exact bodyPost_ret (v:=.tuple #[adV false fun _=>0,.int .i64 2]) (Qd _ _ Tryz.underlying27 Jfq rfl _ _ w.heap.size (.int .i64 2) rfl rfl (Z9 HH.out)) rfl (.mk rfl (below_setRow HW2.out (JoQ _) _))
theorem Jdh (A:Option Addr)(n c:Nat)(l:List Int)(w:World)(hr:Jg w A n c l)(hm:n≤1000000):Calls Tryz.prog 140 #[.slice A n c] w (Jj w (JeD l)):=by
 by_cases h16:n=16
 ·subst h16;exact JmR A c l w hr
 ·by_cases h4:n=4
  ·subst h4;exact Jns A c l w hr
  ·exact JmS A n c l w hr hm h16 h4
end
end Go.Proofs.YtkgjbipfhhjlpaaGreatDoor
