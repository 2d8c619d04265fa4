import Derived.Test.YtkgjbipfhhjlpaaGreatDoorMf2
import Derived.Lib.BytesEntry
set_option linter.unusedVariables false
set_option linter.unusedSimpArgs false
set_option maxRecDepth 100000
set_option maxHeartbeats 32000000
namespace Go.Proofs.YtkgjbipfhhjlpaaGreatDoor
section
open Go.RowKit
theorem JeE:(Tryz.prog.info? 27).map (·.size)=some 17:=by kernel_rfl
def Ja (six:Bool)(B:Nat→Int):List Int:=(List.range (JcI six).toNat).map B
theorem Ji (six:Bool)(B:Nat→Int):(Ja six B).length=(JcI six).toNat:=by simp[Ja]
theorem ZU (six:Bool)(B:Nat→Int)(i:Nat)(h:i<(JcI six).toNat):(Ja six B).getD i 0=B i:=by simp[Ja,List.getD_eq_getElem?_getD,h]
theorem JmD (six:Bool):∃z:Nat,JcI six=z∧4≤z∧z≤16∧(JcI six).toNat=z:=by
 cases six
 ·exact⟨4,rfl,by omega,by omega,rfl⟩
 ·exact⟨16,rfl,by omega,by omega,rfl⟩
theorem bytes_any (six:Bool)(B:Nat→Int)(w:World):Calls Tryz.prog 64 #[adV six B] w (J9 w (Ja six B)):=by
 have HX:Hid (JZ (w.alloc (.cells (JnH six B) 27)) w.heap.size 27 six B):=Jnv (JZ.made w _ six B)
 have HW:Hid (Below w.heap.size w (w.alloc (.cells (JnH six B) 27))):=Jnv (Below.all (Jny w.heap.size w) _)
 have HS:=Jnv (fun w=>JaP six B w)
 have HL:=Jnv (Ji six B)
 have HGT:=Jnv (fun i h=>ZU six B i h)
 obtain⟨z,hz,hz4,hz16,hzn⟩:=JmD six
 rw[hz] at HS
 rw[hzn] at HL HGT
 clear hz hzn
 generalize Ja six B=l at*
 unfold adV at*
 go_enter Tryz.func64,Tryz.ntmps64
 go_wp2_with fail
 generalize w.alloc (.cells (JnH six B) 27)=w1 at*
 refine Jnx (HS.out _) ?_
 rintro e w2 ⟨rfl,hb2⟩
 have HX2:=Jnv (HX.out.below hb2)
 have HW2:=Jnv (Jno HW.out hb2)
 have hz16':(z:Int)≤16:=by omega
 have hne:¬(16=0):=by omega
 clear hb2 HX HW
 go_wp2_with fail
 refine Jnx (Tryz.bytes_Clone_at ⟨w.heap.size,1,none⟩ z 16 l w2 HL.out (by omega) (fun i hi=>by
  rw[Addr.add_lit,HGT.out i hi]
  exact HX2.out.cell i (by omega))) ?_
 rintro e w3 ⟨v',rfl,hrow,-,hb3⟩
 obtain⟨oa,cap,rfl,hO⟩:=JI.of_row hrow
 have HO:=Jnv (hO.mono HW2.out.size)
 have HW3:=Jnv (Jno HW2.out hb3)
 clear hrow hO hb3
 go_wp2_with fail
 go_ret
 exact .mk HO.out HL.out.symm HW3.out
def JM (l:List Int)(i:Nat):Int:=l.getD i 0
def JdP (l:List Int):Value:=if l.length=16 then .tuple #[adV true (JM l),.int .i64 0] else if l.length=4 then .tuple #[adV false (JM l),.int .i64 0] else .tuple #[adV false fun _=>0,.int .i64 2]
theorem JeF {l:List Int}{n:Nat}(h:l.length=n)(i:Nat)(hi:n≤i):JM l i=0:=by
 unfold JM
 rw[List.getD_eq_getElem?_getD,List.getElem?_eq_none (by omega)];rfl
theorem JeG {l:List Int}(h:l.length=16):JdP l=.tuple #[adV true (JM l),.int .i64 0]:=by unfold JdP;rw[if_pos h]
theorem JgV {l:List Int}(h:l.length=4):JdP l=.tuple #[adV false (JM l),.int .i64 0]:=by unfold JdP;rw[if_neg (by omega),if_pos h]
theorem Jkn {l:List Int}(h:l.length≠16)(h':l.length≠4):JdP l=.tuple #[adV false fun _=>0,.int .i64 2]:=by unfold JdP;rw[if_neg h,if_neg h']
theorem Ji1 (n:Nat){P:Program}{ops:Array Oper}{Q:Exit→Act→World→Prop}{op:Op}{ty:TypeId}{pos:String}{after:Array Edge}{g:Option (Nat×Bool)}{rest:List Oper}{a:Act}{w:World}
 (h:JB (wpList P ops Q (⟨some n,op,ty,pos,after,g⟩::rest) a w)):wpList P ops Q (⟨some n,op,ty,pos,after,g⟩::rest) a w:=h
theorem Jlt (A:Option Addr)(c:Nat)(l:List Int)(w:World)(hr:Jj w A 16 c l):Calls Tryz.prog 140 #[.slice A 16 c] w (Jk w (JdP l)):=by
 rw[JeG hr.len]
 have HF:=Jnv (fun i h=>JeF hr.len i h)
 have HS:=Jnv (fun w=>JaP true (fun _=>0) w)
 rw[show JcI true=16 from rfl] at HS
 obtain⟨g,off,rfl,hg,hc⟩:=hr.here (by omega)
 have HC:Hid (∀j,j<16→w.cell? ⟨g,off+j,none⟩=some (.int .u8 (JM l j))):=Jnv hc
 have HB:=Jnv (show Below w.heap.size w ((w.alloc (.cells (JnQ false) 27)).alloc (.cells (JnQ true) 27)) from Below.all (Below.all (Jny _ _) _) _)
 clear hr hc
 unfold adV at HS
 go_enter Tryz.func140,Tryz.ntmps140
 go_wp2_with fail
 refine Jnx (HS.out _) ?_
 rintro e w2 ⟨rfl,hb2⟩
 have hX0:=(hb2.block _ (by simp;omega)).trans (heap_alloc2_old w (.cells (JnQ false) 27) (.cells (JnQ true) 27))
 have hY0:=(hb2.block _ (by simp)).trans (heap_alloc2_new w (.cells (JnQ false) 27) (.cells (JnQ true) 27))
 have HW2:=Jnv (Jno HB.out hb2)
 have hs2:w.heap.size+1<w2.heap.size:=by have:=hb2.size;simp at this;omega
 clear hb2 HB HS
 go_wp2_with (with_reducible refine Ji1 18 ?_)
 refine JB.mk ?_
 refine wpList_copy_splice rfl (.tmp 16) (.tmp 17) 22 22 rfl 5 Tryz.underlying22 (by kernel_rfl) (some ⟨w.heap.size+1,1,none⟩) (some ⟨g,off,none⟩) 16 16 16 c rfl rfl (w.heap.size+1) 1
  (.bool true::List.replicate 16 (.int .u8 0)) 27 hY0 (Jbx 16 (JM l)) (Xp _ _) (fun _=>⟨rfl,_,rfl,fun j v hv=>?_⟩) (by rw[Xp];decide) (JaR _ _) (w.heap.size+1) w2 (Jny _ _) (JnA _) ?_
 ·obtain⟨hj,rfl⟩:=JaQ _ _ _ _ hv
  rw[Addr.add_lit]
  exact(HW2.out.cell (p:=⟨g,off+j,none⟩) hg).trans (HC.out j hj)
 intro w' hg' hb
 have hX1:=(hb.block w.heap.size (by omega)).trans hX0
 have hY1:w'.heap[w.heap.size+1]? =some (.cells (JnI true (.int .u8 (JM l 0)) (.int .u8 (JM l 1)) (.int .u8 (JM l 2)) (.int .u8 (JM l 3)) (.int .u8 (JM l 4)) (.int .u8 (JM l 5)) (.int .u8 (JM l 6)) (.int .u8 (JM l 7)) (.int .u8 (JM l 8)) (.int .u8 (JM l 9)) (.int .u8 (JM l 10)) (.int .u8 (JM l 11)) (.int .u8 (JM l 12)) (.int .u8 (JM l 13)) (.int .u8 (JM l 14)) (.int .u8 (JM l 15))) 27 (0,0)):=hg'.out
 have hpp:Jc w' (w.heap.size+1) 0 17=(JnI true (.int .u8 (JM l 0)) (.int .u8 (JM l 1)) (.int .u8 (JM l 2)) (.int .u8 (JM l 3)) (.int .u8 (JM l 4)) (.int .u8 (JM l 5)) (.int .u8 (JM l 6)) (.int .u8 (JM l 7)) (.int .u8 (JM l 8)) (.int .u8 (JM l 9)) (.int .u8 (JM l 10)) (.int .u8 (JM l 11)) (.int .u8 (JM l 12)) (.int .u8 (JM l 13)) (.int .u8 (JM l 14)) (.int .u8 (JM l 15)):Array Value):=by rw[Jn _ _ _ _ _ _ _ hY1];simp
 have hrr:=(JZ.mk (six:=false) (B:=fun _=>(0:Int)) hX1).row
 have HH:=Jnv hX1
 have HB3:Hid (Below w.heap.size w w'):=Jnv (HW2.out.trans (hb.mono (by omega)))
 clear hX0 hY0 hg' hb hX1 hY1 hs2 HW2
 go_wp2_with fail
 refine bodyPost_ret (v:=.tuple #[adV true (JM l),.int .i64 0]) ?_ rfl (.mk rfl (below_setRow HB3.out (JnA _) _))
 refine J4 _ _ Tryz.underlying27 JeE rfl _ _ w.heap.size (.int .i64 0) rfl rfl ?_
 exact ZT HH.out
theorem Jl8 (A:Option Addr)(c:Nat)(l:List Int)(w:World)(hr:Jj w A 4 c l):Calls Tryz.prog 140 #[.slice A 4 c] w (Jk w (JdP l)):=by
 rw[JgV hr.len]
 have HF:=Jnv (fun i h=>JeF hr.len i h)
 have HS:=Jnv (fun w=>JaP false (fun _=>0) w)
 rw[show JcI false=4 from rfl] at HS
 obtain⟨g,off,rfl,hg,hc⟩:=hr.here (by omega)
 have HC:Hid (∀j,j<4→w.cell? ⟨g,off+j,none⟩=some (.int .u8 (JM l j))):=Jnv hc
 have HB:=Jnv (show Below w.heap.size w ((w.alloc (.cells (JnQ false) 27)).alloc (.cells (JnQ false) 27)) from Below.all (Below.all (Jny _ _) _) _)
 clear hr hc
 unfold adV at HS
 go_enter Tryz.func140,Tryz.ntmps140
 go_wp2_with fail
 refine Jnx (HS.out _) ?_
 rintro e w2 ⟨rfl,hb2⟩
 have hX0:=(hb2.block _ (by simp;omega)).trans (heap_alloc2_old w (.cells (JnQ false) 27) (.cells (JnQ false) 27))
 have hY0:=(hb2.block _ (by simp)).trans (heap_alloc2_new w (.cells (JnQ false) 27) (.cells (JnQ false) 27))
 have HW2:=Jnv (Jno HB.out hb2)
 have hs2:w.heap.size+1<w2.heap.size:=by have:=hb2.size;simp at this;omega
 clear hb2 HB HS
 go_wp2_with (with_reducible refine Ji1 18 ?_)
 refine JB.mk ?_
 refine wpList_copy_splice rfl (.tmp 16) (.tmp 17) 22 22 rfl 5 Tryz.underlying22 (by kernel_rfl) (some ⟨w.heap.size+1,1,none⟩) (some ⟨g,off,none⟩) 16 16 4 c rfl rfl (w.heap.size+1) 1
  (.bool false::List.replicate 16 (.int .u8 0)) 27 hY0 (Jbx 4 (JM l)) (Xp _ _) (fun _=>⟨rfl,_,rfl,fun j v hv=>?_⟩) (by rw[Xp];decide) (JaR _ _) (w.heap.size+1) w2 (Jny _ _) (JnA _) ?_
 ·obtain⟨hj,rfl⟩:=JaQ _ _ _ _ hv
  rw[Addr.add_lit]
  exact(HW2.out.cell (p:=⟨g,off+j,none⟩) hg).trans (HC.out j hj)
 intro w' hg' hb
 have hX1:=(hb.block w.heap.size (by omega)).trans hX0
 have hY1:w'.heap[w.heap.size+1]? =some (.cells (Jop false (.int .u8 (JM l 0)) (.int .u8 (JM l 1)) (.int .u8 (JM l 2)) (.int .u8 (JM l 3))) 27 (0,0)):=hg'.out
 have hpp:Jc w' (w.heap.size+1) 0 17=(Jop false (.int .u8 (JM l 0)) (.int .u8 (JM l 1)) (.int .u8 (JM l 2)) (.int .u8 (JM l 3)):Array Value):=by rw[Jn _ _ _ _ _ _ _ hY1];simp
 have hrr:=(JZ.mk (six:=false) (B:=fun _=>(0:Int)) hX1).row
 have HH:=Jnv hX1
 have HB3:Hid (Below w.heap.size w w'):=Jnv (HW2.out.trans (hb.mono (by omega)))
 clear hX0 hY0 hg' hb hX1 hY1 hs2 HW2
 go_wp2_with fail
 refine bodyPost_ret (v:=.tuple #[adV false (JM l),.int .i64 0]) ?_ rfl (.mk rfl (below_setRow HB3.out (JnA _) _))
 refine J4 _ _ Tryz.underlying27 JeE rfl _ _ w.heap.size (.int .i64 0) rfl rfl ?_
 rw[ZT HH.out]
 rw[HF.out 4 (by omega),HF.out 5 (by omega),HF.out 6 (by omega),HF.out 7 (by omega),HF.out 8 (by omega),HF.out 9 (by omega),HF.out 10 (by omega),HF.out 11 (by omega),HF.out 12 (by omega),HF.out 13 (by omega),HF.out 14 (by omega),HF.out 15 (by omega)]
theorem Jlu (A:Option Addr)(n c:Nat)(l:List Int)(w:World)(hr:Jj w A n c l)(hm:n≤1000000)(h16:n≠16)(h4:n≠4):Calls Tryz.prog 140 #[.slice A n c] w (Jk w (JdP l)):=by
 rw[Jkn (by rw[hr.len];exact h16) (by rw[hr.len];exact h4)]
 have HS:=Jnv (fun w=>JaP false (fun _=>0) w)
 rw[show JcI false=4 from rfl] at HS
 have HB:=Jnv (show Below w.heap.size w ((w.alloc (.cells (JnQ false) 27)).alloc (.cells (JnQ false) 27)) from Below.all (Below.all (Jny _ _) _) _)
 have hn1:((n:Int)==16)=false:=by simp;omega
 have hn2:¬((n:Int)=4):=by omega
 clear hr
 unfold adV at HS
 go_enter Tryz.func140,Tryz.ntmps140
 go_wp2_with fail
 refine Jnx (HS.out _) ?_
 rintro e w2 ⟨rfl,hb2⟩
 have hX0:=(hb2.block _ (by simp;omega)).trans (heap_alloc2_old w (.cells (JnQ false) 27) (.cells (JnQ false) 27))
 have hrr:=(JZ.mk (six:=false) (B:=fun _=>(0:Int)) hX0).row
 have HH:=Jnv hX0
 have HW2:=Jnv (Jno HB.out hb2)
 clear hb2 HB HS hX0
 go_wp2_with fail
 exact bodyPost_ret (v:=.tuple #[adV false fun _=>0,.int .i64 2]) (J4 _ _ Tryz.underlying27 JeE rfl _ _ w.heap.size (.int .i64 2) rfl rfl (ZT HH.out)) rfl (.mk rfl (below_setRow HW2.out (JnA _) _))
theorem JcN (A:Option Addr)(n c:Nat)(l:List Int)(w:World)(hr:Jj w A n c l)(hm:n≤1000000):Calls Tryz.prog 140 #[.slice A n c] w (Jk w (JdP l)):=by
 by_cases h16:n=16
 ·subst h16;exact Jlt A c l w hr
 ·by_cases h4:n=4
  ·subst h4;exact Jl8 A c l w hr
  ·exact Jlu A n c l w hr hm h16 h4
end
end Go.Proofs.YtkgjbipfhhjlpaaGreatDoor
