import Derived.Test.YtkgjbipfhhjlpaaGreatDoorMp11
set_option linter.unusedVariables false
set_option linter.unusedSimpArgs false
set_option maxRecDepth 100000
set_option maxHeartbeats 32000000
namespace Go.Proofs.YtkgjbipfhhjlpaaGreatDoor
section
open Go.RowKit Bits
theorem rows_two {w:World}{o1 o2:Option Addr}{n1 c1 n2 c2:Nat}{l1 l2:List Int}(t:TypeId)(h1:Reads w o1 n1 c1 l1)(h2:Reads w o2 n2 c2 l2)(hn1:n1≤100000)(hn2:n2≤100000)(ha1:∀a,o1=some a→a.block<w.heap.size)(ha2:∀a,o2=some a→a.block<w.heap.size):
 RowsUnder (w.alloc (.cells #[.slice o1 n1 c1,.slice o2 n2 c2] t)) (w.alloc (.cells #[.slice o1 n1 c1,.slice o2 n2 c2] t)).heap.size w.heap.size 2 [l1,l2]:=by
 have hh:=heap_alloc_new w (.cells #[.slice o1 n1 c1,.slice o2 n2 c2] t)
 have hB:Below w.heap.size w (w.alloc (.cells #[.slice o1 n1 c1,.slice o2 n2 c2] t)):=Below.all (Below.refl _ _) _
 refine⟨rfl,by simp,fun j hj=>?_⟩
 rw[cell_of_row _ _ j _ _ (0,0) hh]
 rcases j with _|_|j
 ·exact⟨_,_,_,rfl,h1.below hB,by omega,fun a ha=>by have:=ha1 a ha;simp;omega⟩
 ·exact⟨_,_,_,rfl,h2.below hB,by omega,fun a ha=>by have:=ha2 a ha;simp;omega⟩
 ·simp at hj;omega
theorem Reads.lt {w:World}{oa:Option Addr}{n cap:Nat}{l:List Int}(h:Reads w oa n cap l)(hn:0<n):∀a,oa=some a→a.block<w.heap.size:=by
 intro a ha
 obtain⟨g,off,rfl,hg,-⟩:=h.here hn
 cases ha
 exact hg
def PseudoPost (w:World)(L:List Int):Ending→World→Prop:=fun e w'=>∃oa cap,e=.returned (.tuple #[.slice oa L.length cap,.bool true])∧Owns w' w.heap.size 1 oa L.length cap (L.map (.int .u8))∧Below w.heap.size w w'
theorem pseudo_four (p n:Int)(o1 o2:Option Addr)(c1 c2:Nat)(src dst:List Int)(w:World)(h1:Reads w o1 4 c1 src)(h2:Reads w o2 4 c2 dst)(hp:0≤p∧p<256)(hn:0≤n∧n<65536):
 Calls Tryz.prog 139 #[.int .u8 p,.int .i64 n,.slice o1 4 c1,.slice o2 4 c2] w (PseudoPost w (pseudoL p n src dst)):=by
 have hW:WrK (w.alloc (.cells #[.slice none 0 0] 137)) w.heap.size (fun _=>False) []:=by
  refine WrK.new ?_ ?_ ?_ ?_
  ·simp
  ·simp
  ·simp
  ·intro b hb;cases hb
 have HW:=Lib.hid hW
 have hB:Below w.heap.size w (w.alloc (.cells #[.slice none 0 0] 137)):=Below.all (Below.refl _ _) _
 have hu:=rows_two 22 (h1.below hB) (h2.below hB) (by decide) (by decide) (fun a ha=>by have:=h1.lt (by decide) a ha;simp;omega) (fun a ha=>by have:=h2.lt (by decide) a ha;simp;omega)
 have HU:=Lib.hid hu
 have hl1:=h1.len
 have hl2:=h2.len
 have HB:=Lib.hid hB
 have hpc:p<256:=hp.2
 have HBY:Hid (∀v∈src++dst,0≤v∧v<256):=Lib.hid (fun v hv=>by rcases List.mem_append.1 hv with h|h;exact h1.byte v h;exact h2.byte v h)
 clear hW hB hu h1 h2
 go_enter Tryz.func139,Tryz.ntmps139
 go_wp2_with fail
 refine Calls.mono (concat_any _ 2 2 _ _ (by simpa using HU.out) (by decide)) ?_
 rintro e w2 ⟨oa,cap,rfl,ho,hb⟩
 rw[show[src,dst].flatten=src++dst by simp] at ho⊢
 have hr:=ho.reads HBY.out
 have HLL:Hid ((src++dst).length=8):=Lib.hid (by rw[List.length_append,hl1,hl2])
 rw[HLL.out] at hr
 have hb':=Below.via (Below.all (Below.refl (w.alloc (.cells #[.slice none 0 0] 137)).heap.size _) _) hb
 have HW2:=Lib.hid (HW.out.below hb')
 have HB2:=Lib.hid (Below.via HB.out hb')
 have HR:=Lib.hid hr
 clear ho hb hb' hr HU HW HB
 go_wp2_with fail
 refine Calls.mono (raw_keep _ _ _ _ _ _ _ w2 HW2.out HR.out (by rw[HLL.out];simp)) ?_
 rintro e w3 ⟨rfl,hw3,hb3,-⟩
 rw[List.nil_append] at hw3
 have HW3:=Lib.hid hw3
 have HB3:=Lib.hid (HB2.out.trans hb3)
 clear hw3 hb3 HR HW2 HB2
 go_wp2_with fail
 refine Calls.mono (HW3.out.puts 1 (by decide) (Below.all (Below.refl _ _) _) _ (by simp) [0,p] 2 rfl _ (heap_alloc_new _ _) ?_ (by decide) (by rw[HLL.out];decide)) ?_
 ·intro v hv;simp only[List.mem_cons,List.not_mem_nil,or_false] at hv;unfold topW;simp only[if_true];omega
 rintro e w4 ⟨rfl,hw4,hb4,-⟩
 rw[show putsW 1 [0,p]=[0,p] from rfl] at hw4
 have HW4:=Lib.hid hw4
 have HB4:=Lib.hid (HB3.out.trans hb4)
 clear hw4 hb4 HW3 HB3
 go_wp2_with fail
 refine Calls.mono (put_keepW 2 (by decide) _ _ _ n hn.1 (by unfold topW;simp;omega) w4 HW4.out (by rw[List.length_append,HLL.out];simp)) ?_
 rintro e w5 ⟨rfl,hw5,hb5,-⟩
 rw[show putW 2 n=be2 n from rfl] at hw5
 have HW5:=Lib.hid hw5
 have HB5:=Lib.hid (HB4.out.trans hb5)
 clear hw5 hb5 HW4 HB4
 by_cases hp1:p=1
 ·subst hp1
  go_wp2_with fail
  go_ret2
  exact⟨none,0,rfl,Owns.nil _ _ _,HB5.out⟩
 ·have HE:Hid (pseudoL p n src dst=src++dst++[0,p]++be2 n):=Lib.hid (by unfold pseudoL;rw[if_neg hp1,if_pos hl1])
  have HLL5:Hid ((src++dst++[0,p]++be2 n).length≤1000000):=Lib.hid (by rw[List.length_append,List.length_append,HLL.out];simp[be2])
  generalize src++dst++[0,p]++be2 n=L at*
  go_wp2_with fail
  have HWL:=Lib.hid HW5.out.wr
  refine Calls.mono (Bits.bytes_any _ L w5 HWL.out HLL5.out) ?_
  rintro e w6 ⟨oa6,cap6,rfl,ho6,hb6⟩
  have HO6:=Lib.hid (ho6.mono HB5.out.size)
  have HB6:=Lib.hid (Below.via HB5.out hb6)
  clear ho6 hb6
  go_wp2_with fail
  go_ret2
  rw[HE.out]
  exact⟨_,_,rfl,HO6.out,HB6.out⟩
theorem pseudo_six (p n:Int)(o1 o2:Option Addr)(c1 c2:Nat)(src dst:List Int)(w:World)(h1:Reads w o1 16 c1 src)(h2:Reads w o2 16 c2 dst)(hp:0≤p∧p<256)(hn:0≤n∧n<65536):
 Calls Tryz.prog 139 #[.int .u8 p,.int .i64 n,.slice o1 16 c1,.slice o2 16 c2] w (PseudoPost w (pseudoL p n src dst)):=by
 have hW:WrK (w.alloc (.cells #[.slice none 0 0] 137)) w.heap.size (fun _=>False) []:=by
  refine WrK.new ?_ ?_ ?_ ?_
  ·simp
  ·simp
  ·simp
  ·intro b hb;cases hb
 have HW:=Lib.hid hW
 have hB:Below w.heap.size w (w.alloc (.cells #[.slice none 0 0] 137)):=Below.all (Below.refl _ _) _
 have hu:=rows_two 22 (h1.below hB) (h2.below hB) (by decide) (by decide) (fun a ha=>by have:=h1.lt (by decide) a ha;simp;omega) (fun a ha=>by have:=h2.lt (by decide) a ha;simp;omega)
 have HU:=Lib.hid hu
 have hl1:=h1.len
 have hl2:=h2.len
 have HB:=Lib.hid hB
 have hpc:p<256:=hp.2
 have HBY:Hid (∀v∈src++dst,0≤v∧v<256):=Lib.hid (fun v hv=>by rcases List.mem_append.1 hv with h|h;exact h1.byte v h;exact h2.byte v h)
 clear hW hB hu h1 h2
 go_enter Tryz.func139,Tryz.ntmps139
 go_wp2_with fail
 refine Calls.mono (concat_any _ 2 2 _ _ (by simpa using HU.out) (by decide)) ?_
 rintro e w2 ⟨oa,cap,rfl,ho,hb⟩
 rw[show[src,dst].flatten=src++dst by simp] at ho⊢
 have hr:=ho.reads HBY.out
 have HLL:Hid ((src++dst).length=32):=Lib.hid (by rw[List.length_append,hl1,hl2])
 rw[HLL.out] at hr
 have hb':=Below.via (Below.all (Below.refl (w.alloc (.cells #[.slice none 0 0] 137)).heap.size _) _) hb
 have HW2:=Lib.hid (HW.out.below hb')
 have HB2:=Lib.hid (Below.via HB.out hb')
 have HR:=Lib.hid hr
 clear ho hb hb' hr HU HW HB
 go_wp2_with fail
 refine Calls.mono (raw_keep _ _ _ _ _ _ _ w2 HW2.out HR.out (by rw[HLL.out];simp)) ?_
 rintro e w3 ⟨rfl,hw3,hb3,-⟩
 rw[List.nil_append] at hw3
 have HW3:=Lib.hid hw3
 have HB3:=Lib.hid (HB2.out.trans hb3)
 clear hw3 hb3 HR HW2 HB2
 go_wp2_with fail
 refine Calls.mono (put_keepW 4 (by decide) _ _ _ n hn.1 (by unfold topW;simp;omega) w3 HW3.out (by rw[HLL.out];decide)) ?_
 rintro e w4 ⟨rfl,hw4,hb4,-⟩
 rw[show putW 4 n=be4 n from rfl] at hw4
 have HW4:=Lib.hid hw4
 have HB4:=Lib.hid (HB3.out.trans hb4)
 clear hw4 hb4 HW3 HB3
 go_wp2_with fail
 refine Calls.mono (put_keepW 4 (by decide) _ _ _ p hp.1 (by unfold topW;simp;omega) w4 HW4.out (by rw[List.length_append,HLL.out];simp[be4])) ?_
 rintro e w5 ⟨rfl,hw5,hb5,-⟩
 rw[show putW 4 p=be4 p from rfl] at hw5
 have HW5:=Lib.hid hw5
 have HB5:=Lib.hid (HB4.out.trans hb5)
 clear hw5 hb5 HW4 HB4
 by_cases hp1:p=1
 ·subst hp1
  go_wp2_with fail
  go_ret2
  exact⟨none,0,rfl,Owns.nil _ _ _,HB5.out⟩
 ·have HE:Hid (pseudoL p n src dst=src++dst++be4 n++be4 p):=Lib.hid (by unfold pseudoL;rw[if_neg hp1,if_neg (by omega)];simp only[be4,be2];rw[show n/16777216%256=0 by omega,show n/65536%256=0 by omega,show p/16777216%256=0 by omega,show p/65536%256=0 by omega,show p/256%256=0 by omega,show p%256=p by omega];simp)
  have HLL5:Hid ((src++dst++be4 n++be4 p).length≤1000000):=Lib.hid (by rw[List.length_append,List.length_append,HLL.out];simp[be4])
  generalize src++dst++be4 n++be4 p=L at*
  go_wp2_with fail
  have HWL:=Lib.hid HW5.out.wr
  refine Calls.mono (Bits.bytes_any _ L w5 HWL.out HLL5.out) ?_
  rintro e w6 ⟨oa6,cap6,rfl,ho6,hb6⟩
  have HO6:=Lib.hid (ho6.mono HB5.out.size)
  have HB6:=Lib.hid (Below.via HB5.out hb6)
  clear ho6 hb6
  go_wp2_with fail
  go_ret2
  rw[HE.out]
  exact⟨_,_,rfl,HO6.out,HB6.out⟩
theorem equal_same (oa:Option Addr)(n cap:Nat)(l:List Int)(w:World)(hr:Reads w oa n cap l):Calls Tryz.prog 220 #[.slice oa n cap,.slice oa n cap] w (RetAt w (.bool true)):=by
 have hcv:(convert 22 9 (.slice oa n cap)).run Tryz.prog w=.ok (.string (strOfNums l)) w:=run_string_reads 22 5 Tryz.underlying22 Tryz.underlying5 hr 9 Tryz.underlying9
 go_enter Tryz.func220,Tryz.ntmps220
 go_wp2_with fail
 go_ret
 exact .mk (by simp) (Below.refl _ _)
theorem tlength_any (h s:Int)(f g r:Value)(p a b fl ty cd:Int)(oD:Option Addr)(n cD:Nat)(w:World)(hh:0≤h∧h<100)(hn:n≤1000000):
 Calls Tryz.prog 138 #[.agg #[.int .i64 h,.int .i64 s,f,g,r],.agg (segV p a b fl ty cd oD n cD)] w (RetAt w (.int .i64 (h+n))):=by
 unfold segV
 go_enter Tryz.func138,Tryz.ntmps138
 go_wp2_with fail
 go_ret
 exact .mk (by simp) (Below.all (Below.all (Below.refl _ _) _) _)
theorem tsame_any (p a b fl ty cd:Int)(oD:Option Addr)(n cD:Nat)(l:List Int)(w:World)(hr:Reads w oD n cD l):
 Calls Tryz.prog 195 #[.agg (segV p a b fl ty cd oD n cD),.agg (segV p a b fl ty cd oD n cD)] w (RetAt w (.bool true)):=by
 unfold segV
 have HR:=Lib.hid hr
 clear hr
 go_enter Tryz.func195,Tryz.ntmps195
 go_wp2_with fail
 refine Calls.mono (equal_same none 0 0 [] _ (Reads.nil _)) ?_
 rintro e w2 ⟨rfl,hb⟩
 have HX1:=Lib.hid ((hb.block w.heap.size (by simp;omega)).trans ((heap_alloc_old _ _ (by simp)).trans (heap_alloc_new w _)))
 have HX2:=Lib.hid ((hb.block (w.heap.size+1) (by simp)).trans (heap_two w _ _))
 have HB:=Lib.hid (Below.via (Below.all (Below.all (Below.refl w.heap.size w) (.cells #[.int .u8 p,.int .u16 a,.int .u16 b,.int .u32 0,.int .u32 0,.int .u8 fl,.int .u16 0,.int .u16 0,.slice none 0 0,.int .u8 ty,.int .u8 cd,.slice oD n cD] 149)) (.cells #[.int .u8 p,.int .u16 a,.int .u16 b,.int .u32 0,.int .u32 0,.int .u8 fl,.int .u16 0,.int .u16 0,.slice none 0 0,.int .u8 ty,.int .u8 cd,.slice oD n cD] 149)) hb)
 clear hb
 have h1:w2.cell? ⟨w.heap.size,11,none⟩=some (.slice oD n cD):=cell_of_row _ _ 11 _ _ (0,0) HX1.out
 have h2:w2.cell? ⟨w.heap.size+1,11,none⟩=some (.slice oD n cD):=cell_of_row _ _ 11 _ _ (0,0) HX2.out
 go_wp2_with fail
 refine Calls.mono (equal_same oD n cD l w2 (HR.out.below HB.out)) ?_
 rintro e w3 ⟨rfl,hb⟩
 have HB3:=Lib.hid (Below.via HB.out hb)
 clear hb h1 h2
 go_wp2_with fail
 go_ret
 exact .mk rfl HB3.out
theorem seg_ret {fn:Func}{q:Tmp}(h:fn.results=#[.cell q 149])(tmps:Array Value)(w:World)(b:Nat)(cs:Array Value)(t:TypeId)(fr:Nat×Nat)(hp:tmps.getD q undef=.pointer (some ⟨b,0,none⟩))(hc:w.heap[b]? =some (.cells cs t fr))(hs:cs.size=12):
 (results fn tmps).run Tryz.prog w=.ok (.agg cs) w:=by
 have:=results_part1 h tmps w b 12 _ Tryz.underlying149 rfl info_seg hp cs (partOf_all hc hs) hs
 exact this
theorem proto2_any (p a b fl:Int)(oD:Option Addr)(n cD:Nat)(w:World):
 Calls Tryz.prog 184 #[.agg (segV p a b fl 0 0 oD n cD)] w (RetAt w (.agg (segV p a b fl 0 0 oD n cD))):=by
 unfold segV
 go_enter Tryz.func184,Tryz.ntmps184
 go_wp2_with fail
 refine bodyPost_ret (seg_ret rfl _ _ (w.heap.size+1) _ _ (0,0) rfl (heap_two w _ _) rfl) rfl ?_
 exact .mk rfl (Below.all (Below.all (Below.refl _ _) _) _)
theorem proto3_any (p a b fl ty cd:Int)(oD:Option Addr)(n cD:Nat)(w:World):
 Calls Tryz.prog 187 #[.agg (segV p a b fl ty cd oD n cD)] w (RetAt w (.agg (segV 0 a b 0 0 0 none 0 0))):=by
 unfold segV
 go_enter Tryz.func187,Tryz.ntmps187
 go_wp2_with fail
 refine bodyPost_ret (seg_ret rfl _ _ (w.heap.size+1) _ _ (0,0) rfl (heap_two w _ _) rfl) rfl ?_
 exact .mk rfl (Below.all (Below.all (Below.refl _ _) _) _)
theorem proto1_any (p a b fl ty cd:Int)(oD:Option Addr)(n cD:Nat)(w:World):
 Calls Tryz.prog 181 #[.agg (segV p a b fl ty cd oD n cD)] w (RetAt w (.agg (segV 0 0 0 0 ty cd none 0 0))):=by
 unfold segV
 go_enter Tryz.func181,Tryz.ntmps181
 go_wp2_with fail
 refine bodyPost_ret (seg_ret rfl _ _ (w.heap.size+1) _ _ (0,0) rfl (heap_two w _ _) rfl) rfl ?_
 exact .mk rfl (Below.all (Below.all (Below.refl _ _) _) _)
end
section
open Go.RowKit
section
variable {P:Program} {ops:Array Oper} {md:Region.Mode}
theorem SeqRun.of_same {C:World→Prop}{C':Value→World→Prop}{o:Oper}{a a':Act}(h:SeqRun P ops C C' o a)(he:execOp a'.eval o=execOp a.eval o)(hw:Region.wanted o (yielded ops a'.tmps)=Region.wanted o (yielded ops a.tmps)):SeqRun P ops C C' o a':=by
 unfold SeqRun at*;rw[he,hw];exact h
abbrev FC:=Option Nat→World→Prop
def wpZ (P:Program)(md:Region.Mode)(ops:Array Oper)(hd sq:List Nat)(f:Nat)(ob:Obj)(G:Nat→World→Prop)(top:List Nat)(Q:Exit→Act→World→Prop):Nat→Nat→FC→Option Nat→Array Bool→Act→Prop
 |0,k,C,fl,listed,a=>Region.ready md ops listed=[]∧∀w,C fl w→Q .normal a w
 |n+1,k,C,fl,listed,a=>Region.ready md ops listed≠[]∧∀i∈Region.ready md ops listed,∀oi,ops[i]? =some oi→
  ((i∈hd∧∃v,YieldsIn P ops (C fl) oi v a∧wpZ P md ops hd sq f ob G top Q n k C fl (listed.setIfInBounds i true) (a.put oi.dst v))∨
   (sq[k]? =some i∧∃C':Value→FC,SeqRun P ops (C fl) (fun v w=>C' v fl w) oi a∧(∀v fl,Kept G top (k+1) (C' v fl))∧∀v,(∃w,C' v fl w)→wpZ P md ops hd sq f ob G top Q n (k+1) (C' v) fl (listed.setIfInBounds i true) (a.put oi.dst v))∨
   (i=f∧f∉sq∧fl=none∧Makes P ops oi ob∧(∀w,C none w→C (some w.heap.size) (w.alloc ob))∧∀b,wpZ P md ops hd sq f ob G top Q n k C (some b) (listed.setIfInBounds i true) (a.put oi.dst (ptrTo b))))
theorem wpAny_of_Z {hd sq:List Nat}{f:Nat}{ob:Obj}{G:Nat→World→Prop}{top:List Nat}{Q':Exit→Act→World→Prop}:
 ∀(n k:Nat) (C:FC) (fl:Option Nat) (listed:Array Bool) (a:Act) (w:World),C fl w→wpZ P md ops hd sq f ob G top Q' n k C fl listed a→wpAny P md ops Q' n listed a w
 |0,k,C,fl,listed,a,w,hw,h=>⟨h.1,h.2 w hw⟩
 |n+1,k,C,fl,listed,a,w,hw,h=>by
  refine⟨fun h0=>absurd h0 h.1,fun i hi=>?_⟩
  obtain⟨_,oi,hoi,_⟩:=mem_ready.1 hi
  rcases h.2 i hi oi hoi with ⟨-,v,hy,hk⟩|⟨-,C',⟨hm,ht⟩,-,hk⟩|⟨-,-,rfl,hm,hC,hk⟩
  ·refine wpOp_of_qOp (C:=C fl) (K:=fun a'=>a'=a.put oi.dst v) hw (fun a' w'' hw'' ha=>?_) (hy.qOp hoi rfl)
   subst ha
   exact wpAny_of_Z n k C fl _ _ _ hw'' hk
  ·unfold wpOp
   simp only[hoi,hm,if_true]
   refine .inl ?_
   unfold Oper.wp
   rcases ht w hw with ⟨v,w2,hw2,hr⟩|⟨f',args,hr,hc⟩
   ·rcases hr with hr|⟨hr,rfl⟩
    ·rw[hr];exact wpAny_of_Z n (k+1) _ fl _ _ _ hw2 (hk v ⟨w2,hw2⟩)
    ·rw[hr];exact wpAny_of_Z n (k+1) _ fl _ _ _ hw2 (hk undef ⟨w2,hw2⟩)
   ·rw[hr,Oper.upon_enter]
    refine hc.mono ?_
    rintro e w2 ⟨v,rfl,hw2⟩
    exact wpAny_of_Z n (k+1) _ fl _ _ _ hw2 (hk v ⟨w2,hw2⟩)
  ·unfold wpOp
   simp only[hoi,hm.wanted a,if_true]
   refine .inl ?_
   unfold Oper.wp
   rw[hm.run]
   exact wpAny_of_Z n k C _ _ _ _ (hC w hw) (hk _)
theorem SeqInv.other {sq:List Nat}{k i:Nat}{listed:Array Bool}(inv:SeqInv md ops sq k listed)(hi:i∈Region.ready md ops listed)(hns:i∉sq):SeqInv md ops sq k (listed.setIfInBounds i true):=by
 obtain⟨_,oi,hoi,hall⟩:=mem_ready.1 hi
 refine⟨by simp[inv.size],fun j oj hj hl e he hb=>?_,fun k' t ht hs=>?_,fun k' t ht hs=>getD_set_true (inv.done k' t ht hs)⟩
 ·by_cases hij:i=j
  ·subst hij
   obtain rfl:oj=oi:=Option.some.inj (hj.symm.trans hoi)
   exact getD_set_true (hall e he hb)
  ·rw[getD_set_ne false hij] at hl
   exact getD_set_true (inv.closed j oj hj hl e he hb)
 ·rw[getD_set_ne true (fun h=>hns (by rw[h];exact List.mem_of_getElem? hs))]
  exact inv.open' k' t ht hs
theorem SeqInv.row2 {sq:List Nat}(once:∀k k' t:Nat,sq[k]? =some t→sq[k']? =some t→k=k'){k i:Nat}{listed:Array Bool}(inv:SeqInv md ops sq k listed)(hi:i∈Region.ready md ops listed)(hk:sq[k]? =some i):SeqInv md ops sq (k+1) (listed.setIfInBounds i true):=by
 obtain⟨_,oi,hoi,hall⟩:=mem_ready.1 hi
 have hlt:i<ops.size:=(Array.getElem?_eq_some_iff.1 hoi).1
 refine⟨by simp[inv.size],fun j oj hj hl e he hb=>?_,fun k' t ht hs=>?_,fun k' t ht hs=>?_⟩
 ·by_cases hij:i=j
  ·subst hij
   obtain rfl:oj=oi:=Option.some.inj (hj.symm.trans hoi)
   exact getD_set_true (hall e he hb)
  ·rw[getD_set_ne false hij] at hl
   exact getD_set_true (inv.closed j oj hj hl e he hb)
 ·rw[getD_set_ne true (fun h=>by subst h;have:=once k k' i hk hs;omega)]
  exact inv.open' k' t (by omega) hs
 ·by_cases h:t=i
  ·subst h;have:=inv.size;simp;omega
  ·refine getD_set_true (inv.done k' t ?_ hs)
   rcases Nat.lt_or_ge k' k with h'|h'
   ·exact h'
   ·have:k'=k:=by omega
    subst this;rw[hk] at hs;exact absurd (Option.some.inj hs).symm h
theorem wpZ_first {hd sq:List Nat}{f:Nat}{ob:Obj}{G:Nat→World→Prop}{top:List Nat}{Q:Exit→Act→World→Prop}{i:Nat}{oi:Oper}{v:Value}{a0:Act}(hi:ops[i]? =some oi)(hsel:∀(j:Nat) (o:Oper) cs b,ops[j]? =some o→o.op≠ .select cs b)
 (once:∀k k' t:Nat,sq[k]? =some t→sq[k']? =some t→k=k')(hap:∀j∈hd,j∉sq)(hin:i∈hd)(Inv:Nat→FC→Prop)
 (hInv:∀k C,Inv k C→∀fl a',execOp a'.eval oi=execOp a0.eval oi→Region.wanted oi (yielded ops a'.tmps)=Region.wanted oi (yielded ops a0.tmps)→YieldsIn P ops (C fl) oi v a')
 (hstep:∀k C C' listed j,Inv k C→SeqInv md ops sq k listed→listed.getD i true=false→j∈Region.ready md ops listed→sq[k]? =some j→(∀fl,Kept G top (k+1) (C' fl))→Inv (k+1) C'):
 ∀(n k:Nat) (C:FC) (fl:Option Nat) (listed:Array Bool) (a:Act),Inv k C→SeqInv md ops sq k listed→
  (∀j oj,ops[j]? =some oj→j≠i→listed.getD j true=false→(∀e∈oj.after,Region.binds md e=true→e.on≠i)→oi.apart ops oj=true)→
  i∈Region.ready md ops listed→execOp a.eval oi=execOp a0.eval oi→Region.wanted oi (yielded ops a.tmps)=Region.wanted oi (yielded ops a0.tmps)→
  wpZ P md ops hd sq f ob G top Q n k C fl (listed.setIfInBounds i true) (a.put oi.dst v)→wpZ P md ops hd sq f ob G top Q (n+1) k C fl listed a:=by
 intro n
 induction n with
 |zero=>
  intro k C fl listed a hk inv _ hr e1 e2 H
  refine⟨fun h=>(by rw[h] at hr;cases hr),fun j hj oj hoj=>?_⟩
  by_cases hji:j=i
  ·subst hji
   obtain rfl:oi=oj:=Option.some.inj (hi.symm.trans hoj)
   exact .inl ⟨hin,v,hInv k C hk fl a e1 e2,H⟩
  ·have h:=ready_mono hj hji
   rw[H.1] at h
   cases h
 |succ n ih=>
  intro k C fl listed a hk inv hfree hr e1 e2 H
  have hun:=(mem_ready.1 hr).1
  refine⟨fun h=>(by rw[h] at hr;cases hr),fun j hj oj hoj=>?_⟩
  by_cases hji:j=i
  ·subst hji
   obtain rfl:oi=oj:=Option.some.inj (hi.symm.trans hoj)
   exact .inl ⟨hin,v,hInv k C hk fl a e1 e2,H⟩
  ·have HJ:=H.2 j (ready_mono hj hji) oj hoj
   obtain⟨hjun,oj',hoj',hall⟩:=mem_ready.1 hj
   obtain rfl:oj=oj':=Option.some.inj (hoj.symm.trans hoj')
   have hnot:∀e∈oj.after,Region.binds md e=true→e.on≠i:=fun e he hb heq=>by
    have h1:=hall e he hb
    rw[heq,getD_both hun] at h1
    cases h1
   obtain⟨ap1,ap2,ap3⟩:=Oper.apart_spec (hfree j oj hoj hji hjun hnot)
   have hfree':∀k ok,ops[k]? =some ok→k≠i→(listed.setIfInBounds j true).getD k true=false→
    (∀e∈ok.after,Region.binds md e=true→e.on≠i)→oi.apart ops ok=true:=fun k ok hk hki hun hno=>by
    refine hfree k ok hk hki ?_ hno
    by_cases hjk:j=k
    ·subst hjk;exact hjun
    ·rw[getD_set_ne true hjk] at hun;exact hun
   have hs2:=fun u=>(execOp_put oi (fun cs b=>hsel i oi cs b hi) a oj.dst u ap3).trans e1
   have hw2:=fun u=>(wanted_put oi a oj.dst u ap3).trans e2
   have hsj:=fun cs b=>hsel j oj cs b hoj
   have go:∀k' C' fl' u,Inv k' C'→SeqInv md ops sq k' (listed.setIfInBounds j true)→wpZ P md ops hd sq f ob G top Q n k' C' fl' ((listed.setIfInBounds i true).setIfInBounds j true) ((a.put oi.dst v).put oj.dst u)→
    wpZ P md ops hd sq f ob G top Q (n+1) k' C' fl' (listed.setIfInBounds j true) (a.put oj.dst u):=fun k' C' fl' u h1 h2 h3=>by
    refine ih k' C' fl' (listed.setIfInBounds j true) (a.put oj.dst u) h1 h2 hfree' (ready_mono hr (Ne.symm hji)) (hs2 u) (hw2 u) ?_
    rw[Array.setIfInBounds_comm _ _ hji,←Act.put_comm a v u ap2]
    exact h3
   rcases HJ with ⟨hjn,u,hu,hK⟩|⟨hjk,C',hu,hkept,hK⟩|⟨hjf,hfs,hfl,hM,hC,hK⟩
   ·exact .inl ⟨hjn,u,YieldsIn.of_unputG hsj hu ap1,go k C fl u hk (inv.other hj (hap j hjn)) hK⟩
   ·exact .inr (.inl ⟨hjk,C',hu.of_unput hsj ap1,hkept,fun u hex=>go (k+1) (C' u) fl u (hstep k C (C' u) listed j hk inv hun hj hjk (fun fl=>hkept u fl)) (inv.row2 once hj hjk) (hK u hex)⟩)
   ·subst hjf
    refine .inr (.inr ⟨rfl,hfs,hfl,hM,hC,fun b=>go k C (some b) _ hk (inv.other hj hfs) (hK b)⟩)
def Grow (ob:Obj)(C:FC):Prop:=∀w,C none w→C (some w.heap.size) (w.alloc ob)
def PlainIn (P:Program)(ops:Array Oper)(o:Oper)(v:Value)(a:Act):Prop:=Region.wanted o (yielded ops a.tmps)=true∧∀w,(execOp a.eval o).run P w=.ok (.value v) w
theorem PlainIn.yields {o:Oper}{v:Value}{a:Act}(h:PlainIn P ops o v a)(C:World→Prop):YieldsIn P ops C o v a:=yields_value h.1 fun w _=>h.2 w
theorem PlainIn.of_same {o:Oper}{v:Value}{a a':Act}(h:PlainIn P ops o v a)(he:execOp a'.eval o=execOp a.eval o)(hw:Region.wanted o (yielded ops a'.tmps)=Region.wanted o (yielded ops a.tmps)):PlainIn P ops o v a':=by
 unfold PlainIn at*;rw[he,hw];exact h
def wpPart (P:Program)(ops:Array Oper)(G:Nat→World→Prop)(top:List Nat)(pend:Bool)(F:Option Nat→Prop)(ob:Obj)(E:Nat→FC→Act→Prop):List (Kd×Oper)→Nat→FC→Act→Prop
 |[],k,C,a=>E k C a
 |(.w,o)::rest,k,C,a=>∃C':Value→FC,(∀fl,F fl→SeqRun P ops (C fl) (fun v w=>C' v fl w) o a)∧(∀v fl,Kept G top (k+1) (C' v fl))∧(pend=true→∀v,Grow ob (C' v))∧∀v,(∃fl w,C' v fl w)→wpPart P ops G top pend F ob E rest (k+1) (C' v) (a.put o.dst v)
 |(_,o)::rest,k,C,a=>∃v,PlainIn P ops o v a∧wpPart P ops G top pend F ob E rest k C (a.put o.dst v)
def plainOr:Kd→Bool
 | .w=>true
 | .q=>true
 |_=>false
def partB (md:Region.Mode)(ops:Array Oper):List (Kd×Nat)→Array Bool→Bool
 |[],_=>true
 |(.w,i)::r,listed=>decide (Region.ready md ops listed=[i])&&partB md ops r (listed.setIfInBounds i true)
 |(.q,i)::r,listed=>(Region.ready md ops listed).contains i&&(Region.free md ops listed i&&partB md ops r (listed.setIfInBounds i true))
 |_,_=>false
def rowCount:List (Kd×Nat)→Nat
 |[]=>0
 |(.w,_)::r=>rowCount r+1
 |_::r=>rowCount r
def rowOf:List (Kd×Nat)→List Nat
 |[]=>[]
 |(.w,i)::r=>i::rowOf r
 |_::r=>rowOf r
def listedP:List (Kd×Nat)→Array Bool→Array Bool
 |[],listed=>listed
 |(_,i)::r,listed=>listedP r (listed.setIfInBounds i true)
theorem wpZ_part {hd sq:List Nat}{f:Nat}{ob:Obj}{G:Nat→World→Prop}{top:List Nat}{Q:Exit→Act→World→Prop}{pend:Bool}{F:Option Nat→Prop}{E:Nat→FC→Act→Prop}{fl:Option Nat}{m:Nat}(hF:F fl)
 (hsel:∀(j:Nat) (o:Oper) cs b,ops[j]? =some o→o.op≠ .select cs b)(once:∀k k' t:Nat,sq[k]? =some t→sq[k']? =some t→k=k')(hap:∀j∈hd,j∉sq):
 ∀(l:List (Kd×Oper)) (is:List (Kd×Nat)) (k:Nat) (C:FC) (listed:Array Bool) (a:Act),is.map (fun p=>ops[p.2]?)=l.map (fun p=>some p.2)→is.map (·.1)=l.map (·.1)→(∀p∈is,p.1=.q→p.2∈hd)→(∀j t,(rowOf is)[j]? =some t→sq[k+j]? =some t)→SeqInv md ops sq k listed→
 partB md ops is listed=true→(∀k' C' a',E k' C' a'→k'=k+rowCount is→SeqInv md ops sq k' (listedP is listed)→wpZ P md ops hd sq f ob G top Q m k' C' fl (listedP is listed) a')→
 wpPart P ops G top pend F ob E l k C a→wpZ P md ops hd sq f ob G top Q (l.length+m) k C fl listed a
 |[],is,k,C,listed,a,h1,_,_,_,inv,_,hE,h=>by
  cases is with
  |cons i is=>cases h1
  |nil=>rw[List.length_nil,Nat.zero_add];exact hE k C a h rfl inv
 |(kk,o)::l,is,k,C,listed,a,h1,h2,h3,h4,inv,hB,hE,h=>by
  cases is with
  |nil=>cases h1
  |cons q is=>
   obtain⟨kd,i⟩:=q
   simp only[List.map_cons,List.cons.injEq] at h1 h2
   obtain⟨rfl,h2⟩:=h2
   have ha:i∈Region.ready md ops listed:=by
    cases kd<;>simp only[partB,Bool.and_eq_true,decide_eq_true_eq] at hB
    ·cases hB
    ·simpa using hB.1
    ·rw[hB.1];simp
    ·cases hB
    ·cases hB
   rw[show((kd,o)::l).length+m=(l.length+m)+1 by simp only[List.length_cons];omega]
   cases kd with
   |h=>cases hB
   |c=>cases hB
   |f=>cases hB
   |q=>
    simp only[partB,Bool.and_eq_true] at hB
    obtain⟨v,hv,hk⟩:=h
    have hin:=h3 (.q,i) (by simp) rfl
    refine wpZ_first (a0:=a) h1.1 hsel once hap hin (fun _ _=>True) (fun _ _ _ fl a' e1 e2=>(hv.of_same e1 e2).yields _) (fun _ _ _ _ _ _ _ _ _ _ _=>trivial) (l.length+m) k C fl listed a trivial inv (Region.free_spec h1.1 hB.2.1) ha rfl rfl ?_
    exact wpZ_part hF hsel once hap l is k C _ _ h1.2 h2 (fun p hp=>h3 p (by simp[hp])) (fun j t ht=>h4 j t ht) (inv.other ha (hap i hin)) hB.2.2 hE hk
   |w=>
    simp only[partB,Bool.and_eq_true,decide_eq_true_eq] at hB
    obtain⟨C',e1,e2,e3,e4⟩:=h
    have hk0:sq[k]? =some i:=h4 0 i rfl
    refine⟨by rw[hB.1];simp,fun j hj oj hoj=>?_⟩
    rw[hB.1] at hj
    obtain rfl:j=i:=by simpa using hj
    obtain rfl:o=oj:=Option.some.inj (h1.1.symm.trans hoj)
    refine .inr (.inl ⟨hk0,C',e1 fl hF,e2,fun v hv=>?_⟩)
    obtain⟨w,hw⟩:=hv
    exact wpZ_part hF hsel once hap l is (k+1) (C' v) _ _ h1.2 h2 (fun p hp=>h3 p (by simp[hp])) (fun j t ht=>by have:=h4 (j+1) t (by simpa[rowOf] using ht);rwa [show k+(j+1)=k+1+j by omega] at this) (inv.row2 once ha hk0) hB.2
     (fun k' C' a' hE' hk' hi'=>hE k' C' a' hE' (by simp only[rowCount];omega) hi') (e4 v ⟨fl,w,hw⟩)
theorem wpPart_put {G:Nat→World→Prop}{top:List Nat}{F F':Option Nat→Prop}{ob:Obj}{E E':Nat→FC→Act→Prop}{d:Tmp}{x:Value}(hFF:∀fl,F' fl→F fl):∀(l:List (Kd×Oper)) (k:Nat) (C:FC) (a:Act),(∀p∈l,(∀cs b,p.2.op≠ .select cs b)∧d∉p.2.looksAt ops∧p.2.dst≠some d)→
 (∀k' C' a',E k' C' a'→E' k' C' (a'.put (some d) x))→wpPart P ops G top true F ob E l k C a→wpPart P ops G top false F' ob E' l k C (a.put (some d) x)
 |[],k,C,a,_,hE,h=>hE k C a h
 |(kk,o)::rest,k,C,a,hp,hE,h=>by
  obtain⟨s,p1,p2⟩:=hp (kk,o) (by simp)
  have hap:∀e,some d=some e→e∉o.looksAt ops:=fun e he=>by cases he;exact p1
  have he:=execOp_put o s a (some d) x hap
  have hw:=wanted_put (ops:=ops) o a (some d) x hap
  have hcm:∀v,(a.put (some d) x).put o.dst v=(a.put o.dst v).put (some d) x:=fun v=>Act.put_comm a x v (fun e h1 h2=>p2 (h2.trans h1.symm))
  have ih:=fun v k' C'=>wpPart_put (G:=G) (top:=top) (E:=E) (E':=E') (d:=d) (x:=x) (ob:=ob) hFF rest k' C' (a.put o.dst v) (fun p hp'=>hp p (by simp[hp'])) hE
  cases kk with
  |h=>obtain⟨v,h1,h2⟩:=h;exact⟨v,h1.of_same he hw,by rw[hcm];exact ih v k C h2⟩
  |q=>obtain⟨v,h1,h2⟩:=h;exact⟨v,h1.of_same he hw,by rw[hcm];exact ih v k C h2⟩
  |c=>obtain⟨v,h1,h2⟩:=h;exact⟨v,h1.of_same he hw,by rw[hcm];exact ih v k C h2⟩
  |f=>obtain⟨v,h1,h2⟩:=h;exact⟨v,h1.of_same he hw,by rw[hcm];exact ih v k C h2⟩
  |w=>obtain⟨C',h1,h2,h3,h4⟩:=h;exact⟨C',fun fl hf=>(h1 fl (hFF fl hf)).of_same he hw,h2,fun h=>by simp at h,fun v hv=>by rw[hcm];exact ih v (k+1) (C' v) (h4 v hv)⟩
def partFB (md:Region.Mode)(ops:Array Oper)(f:Nat):List (Kd×Nat)→Array Bool→Bool
 |[],listed=>decide (Region.ready md ops listed=[f])
 |(.w,i)::r,listed=>decide (Region.ready md ops listed=[i,f])&&(partB md ops ((.w,i)::r) (listed.setIfInBounds f true)&&partFB md ops f r (listed.setIfInBounds i true))
 |(.q,i)::r,listed=>(Region.ready md ops listed).contains i&&(Region.free md ops listed i&&partFB md ops f r (listed.setIfInBounds i true))
 |_,_=>false
theorem listedP_comm:∀(l:List (Kd×Nat)) (f:Nat) (listed:Array Bool),(∀p∈l,p.2≠f)→listedP l (listed.setIfInBounds f true)=(listedP l listed).setIfInBounds f true
 |[],_,_,_=>rfl
 |(kd,i)::l,f,listed,h=>by
  simp only[listedP]
  rw[Array.setIfInBounds_comm _ _ (fun e=>h (kd,i) (by simp) e.symm),listedP_comm l f _ (fun p hp=>h p (by simp[hp]))]
theorem wpZ_partF {hd sq:List Nat}{f:Nat}{ob:Obj}{G:Nat→World→Prop}{top:List Nat}{Q:Exit→Act→World→Prop}{E:Nat→FC→Act→Prop}{EF:Nat→Nat→FC→Act→Prop}{of:Oper}{d:Tmp}{m:Nat}(hf:ops[f]? =some of)(hfd:of.dst=some d)(hM:Makes P ops of ob)(hfs:f∉sq)
 (hsel:∀(j:Nat) (o:Oper) cs b,ops[j]? =some o→o.op≠ .select cs b)(once:∀k k' t:Nat,sq[k]? =some t→sq[k']? =some t→k=k')(hap:∀j∈hd,j∉sq)(hE:∀b k C a,E k C a→EF b k C (a.put (some d) (ptrTo b))):
 ∀(l:List (Kd×Oper)) (is:List (Kd×Nat)) (k:Nat) (C:FC) (listed:Array Bool) (a:Act),is.map (fun p=>ops[p.2]?)=l.map (fun p=>some p.2)→is.map (·.1)=l.map (·.1)→(∀p∈is,(p.1=.q→p.2∈hd)∧p.2≠f)→(∀j t,(rowOf is)[j]? =some t→sq[k+j]? =some t)→SeqInv md ops sq k listed→
 (∀p∈l,(∀cs b,p.2.op≠ .select cs b)∧d∉p.2.looksAt ops∧p.2.dst≠some d)→
 partFB md ops f is listed=true→Grow ob C→(∀b k' C' a',EF b k' C' a'→k'=k+rowCount is→SeqInv md ops sq k' ((listedP is listed).setIfInBounds f true)→wpZ P md ops hd sq f ob G top Q m k' C' (some b) ((listedP is listed).setIfInBounds f true) a')→
 wpPart P ops G top true (fun _=>True) ob E l k C a→wpZ P md ops hd sq f ob G top Q (l.length+(m+1)) k C none listed a
 |[],is,k,C,listed,a,h1,_,_,_,inv,_,hB,hG,hK,h=>by
  cases is with
  |cons i is=>cases h1
  |nil=>
   simp only[partFB,decide_eq_true_eq] at hB
   rw[List.length_nil,Nat.zero_add]
   refine⟨by rw[hB];simp,fun j hj oj hoj=>?_⟩
   have hjr:=hj
   rw[hB] at hj
   obtain rfl:j=f:=by simpa using hj
   obtain rfl:of=oj:=Option.some.inj (hf.symm.trans hoj)
   refine .inr (.inr ⟨rfl,hfs,rfl,hM,hG,fun b=>?_⟩)
   rw[hfd]
   exact hK b k C _ (hE b k C a h) rfl (inv.other hjr hfs)
 |(kk,o)::l,is,k,C,listed,a,h1,h2,h3,h4,inv,h5,hB,hG,hK,h=>by
  cases is with
  |nil=>cases h1
  |cons q is=>
   obtain⟨kd,i⟩:=q
   have h1a:=h1
   have h2a:=h2
   simp only[List.map_cons,List.cons.injEq] at h1 h2
   obtain⟨rfl,h2⟩:=h2
   rw[show((kd,o)::l).length+(m+1)=(l.length+(m+1))+1 by simp only[List.length_cons];omega]
   cases kd with
   |h=>cases hB
   |c=>cases hB
   |f=>cases hB
   |q=>
    simp only[partFB,Bool.and_eq_true] at hB
    obtain⟨v,hv,hk⟩:=h
    have hin:=(h3 (.q,i) (by simp)).1 rfl
    have ha:i∈Region.ready md ops listed:=by simpa using hB.1
    refine wpZ_first (a0:=a) h1.1 hsel once hap hin (fun _ _=>True) (fun _ _ _ fl a' e1 e2=>(hv.of_same e1 e2).yields _) (fun _ _ _ _ _ _ _ _ _ _ _=>trivial) (l.length+(m+1)) k C none listed a trivial inv (Region.free_spec h1.1 hB.2.1) ha rfl rfl ?_
    exact wpZ_partF hf hfd hM hfs hsel once hap hE l is k C _ _ h1.2 h2 (fun p hp=>h3 p (by simp[hp])) (fun j t ht=>h4 j t ht) (inv.other ha (hap i hin)) (fun p hp=>h5 p (by simp[hp])) hB.2.2 hG hK hk
   |w=>
    have hall:=h
    simp only[partFB,Bool.and_eq_true,decide_eq_true_eq] at hB
    obtain⟨hr,hBf,hB'⟩:=hB
    obtain⟨C',e1,e2,e3,e4⟩:=h
    have hk0:sq[k]? =some i:=h4 0 i rfl
    refine⟨by rw[hr];simp,fun j hj oj hoj=>?_⟩
    have hjr:=hj
    rw[hr] at hj
    have hj':j=i∨j=f:=by simpa using hj
    rcases hj' with rfl|rfl
    ·obtain rfl:o=oj:=Option.some.inj (h1.1.symm.trans hoj)
     refine .inr (.inl ⟨hk0,C',e1 none trivial,e2,fun v hv=>?_⟩)
     obtain⟨w,hw⟩:=hv
     exact wpZ_partF hf hfd hM hfs hsel once hap hE l is (k+1) (C' v) _ _ h1.2 h2 (fun p hp=>h3 p (by simp[hp])) (fun j t ht=>by have:=h4 (j+1) t (by simpa[rowOf] using ht);rwa [show k+(j+1)=k+1+j by omega] at this) (inv.row2 once hjr hk0) (fun p hp=>h5 p (by simp[hp])) hB' (e3 rfl v)
      (fun b k' C' a' hE' hk' hi'=>hK b k' C' a' hE' (by simp only[rowCount];omega) hi') (e4 v ⟨none,w,hw⟩)
    ·obtain rfl:of=oj:=Option.some.inj (hf.symm.trans hoj)
     refine .inr (.inr ⟨rfl,hfs,rfl,hM,hG,fun b=>?_⟩)
     rw[hfd]
     have hne:∀p∈((Kd.w,i)::is),p.2≠j:=fun p hp=>(h3 p hp).2
     have hput:=wpPart_put (F':=fun fl=>fl=some b) (E':=EF b) (d:=d) (x:=ptrTo b) (fun _ _=>trivial) ((.w,o)::l) k C a h5 (fun k' C' a'=>hE b k' C' a') hall
     have:=wpZ_part (m:=m) (f:=j) (hd:=hd) (sq:=sq) (Q:=Q) (F:=fun fl=>fl=some b) (fl:=some b) rfl hsel once hap ((.w,o)::l) ((.w,i)::is) k C (listed.setIfInBounds j true) _ h1a h2a (fun p hp=>(h3 p hp).1) h4 (inv.other hjr hfs) hBf
      (fun k' C' a' hE' hk' hi'=>by rw[listedP_comm _ _ _ hne] at hi'⊢;exact hK b k' C' a' hE' hk' hi') hput
     rw[show((Kd.w,o)::l).length+m=l.length+(m+1) by simp only[List.length_cons];omega] at this
     exact this
theorem quietAt_mono {C1 C2:World→Prop}{o:Oper}{a:Act}{w:World}{v:Value}(h:o.quietAt P a C1 w v)(hC:∀w',C1 w'→C2 w'):o.quietAt P a C2 w v:=by
 unfold Oper.quietAt at*
 generalize (execOp a.eval o).run P w=r at*
 cases r with
 |ok n w'=>
  cases n<;>simp only[Oper.quietUpon] at h⊢<;>first|exact h|exact⟨h.1,h.2.mono fun e w'' h'=>⟨h'.1,hC _ h'.2⟩⟩
 |halt x w'=>simp only[Oper.quietUpon] at h
def startC (w:World)(ob:Obj):FC:=fun fl w'=>(∃x:Later w,w'=x.world)∧∀b,fl=some b→w.heap.size≤b∧w'.heap[b]? =some ob
theorem startC_grow (w:World)(ob:Obj):Grow ob (startC w ob):=fun w' h=>by
 obtain⟨⟨x,rfl⟩,-⟩:=h
 exact⟨⟨⟨_,Below.all x.below ob⟩,rfl⟩,fun b hb=>by cases hb;exact⟨x.below.size,heap_alloc_new _ _⟩⟩
theorem startC_later {w:World}{ob:Obj}{fl:Option Nat}{w' w2:World}(h:startC w ob fl w')(hb:LaterC w' w2):startC w ob fl w2:=by
 obtain⟨⟨x,rfl⟩,h2⟩:=h
 obtain⟨y,rfl⟩:=hb
 refine⟨⟨⟨_,Below.via x.below y.below⟩,rfl⟩,fun b hb=>⟨(h2 b hb).1,?_⟩⟩
 have:=(h2 b hb).2
 exact(y.below.block b (Array.getElem?_eq_some_iff.1 this).1).trans this
theorem yields_start {w:World}{ob:Obj}{fl:Option Nat}{o:Oper}{v:Value}{a:Act}(h:YieldsAll P ops w o v a):YieldsIn P ops (startC w ob fl) o v a:=by
 have h0:=h w (Below.refl _ _)
 rcases h0 with ⟨hw,-⟩|⟨hw,rfl⟩
 ·refine .inl ⟨hw,fun w' hw'=>?_⟩
  have hx:=hw'.1
  obtain⟨x,rfl⟩:=hx
  rcases h x.world x.below with ⟨-,hq⟩|⟨hf,-⟩
  ·exact quietAt_mono (hq _ ⟨⟨_,Below.refl _ _⟩,rfl⟩) fun w2 h2=>startC_later hw' h2
  ·rw[hw] at hf;cases hf
 ·exact .inr ⟨hw,rfl⟩
theorem wpZ_lexH {hd0 hd sq:List Nat}{f:Nat}{ob:Obj}{w0:World}{G:Nat→World→Prop}{top:List Nat}{Q:Exit→Act→World→Prop}{late grp:Nat→Nat}{aF:Act}{r:Nat}{fl:Option Nat}(hsel:Region.noSelect ops=true)
 (sh:RowShape md ops hd0 sq late)(hsub:∀i∈hd0,i∈hd)(hap:∀j∈hd,j∉sq)(hgrp:∀i∈hd0,late i≤top.getD (grp i) 0)
 (hlate:∀i∈hd0,∀oi,ops[i]? =some oi→0<late i→LateOk P ops (G (grp i)) oi aF):
 ∀(hs:List Nat) (l:List Oper) (listed:Array Bool) (a:Act),hs.map (fun i=>ops[i]?)=l.map some→(∀i∈hs,i∈hd0)→SeqInv md ops sq 0 listed→dstsB a.tmps.size l=true→onwardB ops l=true→
 headsB md ops hs listed=true→(SeqInv md ops sq 0 (listedIn hs listed)→wpZ P md ops hd sq f ob G top Q r 0 (startC w0 ob) fl (listedIn hs listed) aF)→(∀w1,Below w0.heap.size w0 w1→wpQuiet P ops (LaterC w1) (fun a'=>a'=aF) l a)→wpZ P md ops hd sq f ob G top Q (hs.length+r) 0 (startC w0 ob) fl listed a
 |[],l,listed,a,hl,_,inv,_,_,_,hb,h=>by
  cases l with
  |nil=>
   have h:a=aF:=h w0 (Below.refl _ _)
   subst h
   rw[List.length_nil,Nat.zero_add];exact hb inv
  |cons o l=>cases hl
 |i::hs,l,listed,a,hl,hk,inv,hd1,ho,hB,hb,h=>by
  cases l with
  |nil=>cases hl
  |cons o l=>
   simp only[List.map_cons,List.cons.injEq] at hl
   obtain⟨h0,hl'⟩:=hl
   simp only[headsB,Bool.and_eq_true] at hB
   obtain⟨⟨hr,hf⟩,hB'⟩:=hB
   have hin:=hk i (by simp)
   have hr':i∈Region.ready md ops listed:=by simpa using hr
   have hd1':=hd1
   rw[dstsB,Bool.and_eq_true] at hd1
   obtain⟨hd1,hd2⟩:=hd1
   rw[onwardB,Bool.and_eq_true] at ho
   obtain⟨ho1,ho2⟩:=ho
   have hsame:=same_of_quiet (Region.noSelect_spec hsel i o · · h0) (o::l) a (fun p hp d hpd=>by
    have:=List.all_eq_true.1 ho1 p hp
    rw[hpd] at this
    intro hc;simp only[Bool.not_eq_true'] at this;rw[List.contains_iff_mem.2 hc] at this;cases this) (h w0 (Below.refl _ _))
   have hfam:=fam_of (o::l) a hd1' h
   obtain⟨v,hy,-⟩:=hfam
   have hval:∀{C:World→Prop} {u:Value},wpQuiet P ops C (fun a'=>a'=aF) l (a.put o.dst u)→o.dst.isSome=true→∀d,o.dst=some d→aF.tmps.getD d undef=u:=fun {C u} h _ d hod=>by
    rw[hod] at hd1
    simp only[Bool.and_eq_true,decide_eq_true_eq,List.all_eq_true] at hd1
    have hne:∀p∈l,p.dst≠some d:=fun p hp e=>by have:=hd1.2 p hp;rw[e] at this;simp at this
    have:aF.tmps[d]? =some u:=by
     rw[quiet_keeps l _ hne h,hod]
     simp[Act.put,Array.getElem?_setIfInBounds,hd1.1]
    rw[Array.getD_eq_getD_getElem?,this];rfl
   obtain⟨d,hod⟩:∃d,o.dst=some d:=by
    cases ho':o.dst with
    |none=>rw[ho'] at hd1;cases hd1
    |some d=>exact⟨d,rfl⟩
   have H:∀w1,Below w0.heap.size w0 w1→YieldsIn P ops (LaterC w1) o (aF.tmps.getD d undef) a∧wpQuiet P ops (LaterC w1) (fun a'=>a'=aF) l (a.put o.dst (aF.tmps.getD d undef)):=fun w1 hb1=>by
    obtain⟨u,h1,h2⟩:=yieldsIn_cons (h w1 hb1)
    have:=hval h2 (by rw[hod];rfl) d hod
    rw[this]
    exact⟨h1,h2⟩
   rw[show(i::hs).length+r=(hs.length+r)+1 by simp only[List.length_cons];omega]
   refine wpZ_first (a0:=a) (v:=aF.tmps.getD d undef) h0 (Region.noSelect_spec hsel) sh.once hap (hsub i hin) (fun k C=>k≤late i∧∀fl a',execOp a'.eval o=execOp a.eval o→Region.wanted o (yielded ops a'.tmps)=Region.wanted o (yielded ops a.tmps)→YieldsIn P ops (C fl) o (aF.tmps.getD d undef) a')
    (fun k C hI fl a' e1 e2=>hI.2 fl a' e1 e2) (fun k C C' listed' j hI hinv hun hj hjk hkept=>?_) (hs.length+r) 0 (startC w0 ob) fl listed a ⟨Nat.zero_le _,fun fl a' e1 e2=>(yields_start (fun w1 hb1=>(H w1 hb1).1)).of_same e1 e2⟩ inv (Region.free_spec h0 hf) hr' rfl rfl
    (wpZ_lexH hsel sh hsub hap hgrp hlate hs l _ _ hl' (fun j hj=>hk j (by simp[hj])) (inv.other hr' (hap i (hsub i hin))) (by rw[put_size];exact hd2) ho2 hB' hb (fun w1 hb1=>(H w1 hb1).2))
   have hlt:k<late i:=by
    rcases Nat.lt_or_ge k (late i) with h'|h'
    ·exact h'
    ·exact absurd hj (row_waits sh hinv _ i rfl hin hun h' j (List.mem_of_getElem? hjk))
   obtain⟨d',hod',hw,hrun⟩:=hlate i hin o h0 (by omega)
   obtain rfl:d=d':=Option.some.inj (hod.symm.trans hod')
   refine⟨hlt,fun fl a' e1 e2=>?_⟩
   refine(yields_from hw (fun w hw'=>hrun w ?_)).of_same (e1.trans hsame.1.symm) (e2.trans hsame.2.symm)
   exact hkept fl (grp i) (by have:=hgrp i hin;omega) w hw'
def opsAt (l:List Oper):List (Kd×Nat)→List (Kd×Oper)
 |[]=>[]
 |(kd,i)::r=>match l[i]? with
  |some o=>(kd,o)::opsAt l r
  |none=>opsAt l r
theorem opsAt_map {l:List Oper}:∀(is:List (Kd×Nat)),(is.all fun p=>decide (p.2<l.length))=true→is.map (fun p=>l[p.2]?)=(opsAt l is).map (fun p=>some p.2)∧is.map (·.1)=(opsAt l is).map (·.1)
 |[],_=>⟨rfl,rfl⟩
 |(kd,i)::r,h=>by
  simp only[List.all_cons,Bool.and_eq_true,decide_eq_true_eq] at h
  obtain⟨h1,h2⟩:=h
  obtain⟨e1,e2⟩:=opsAt_map r h2
  have:l[i]? =some l[i]:=List.getElem?_eq_getElem h1
  simp only[opsAt,this,List.map_cons,e1,e2,and_self]
def movesOf:List (Kd×Nat)→List Nat
 |[]=>[]
 |(.q,i)::r=>i::movesOf r
 |_::r=>movesOf r
theorem mem_moves:∀(is:List (Kd×Nat)) (p:Kd×Nat),p∈is→p.1=.q→p.2∈movesOf is
 |(kd,i)::r,p,h,hk=>by
  rcases List.mem_cons.1 h with rfl|h
  ·simp only at hk;subst hk;simp[movesOf]
  ·have:=mem_moves r p h hk
   cases kd<;>simp only[movesOf]<;>first|exact this|exact List.mem_cons_of_mem _ this
theorem rowOf_append:∀(a b:List (Kd×Nat)),rowOf (a++b)=rowOf a++rowOf b
 |[],b=>rfl
 |(kd,i)::a,b=>by cases kd<;>simp[rowOf,rowOf_append a b]
theorem rowCount_eq:∀(a:List (Kd×Nat)),rowCount a=(rowOf a).length
 |[]=>rfl
 |(kd,i)::a=>by cases kd<;>simp[rowOf,rowCount,rowCount_eq a]
theorem mem_row:∀(is:List (Kd×Nat)) (t:Nat),t∈rowOf is→∃p∈is,p.2=t
 |[],t,h=>by cases h
 |(kd,i)::r,t,h=>by
  have step:t∈rowOf r→∃p∈(kd,i)::r,p.2=t:=fun h=>by
   obtain⟨p,hp,e⟩:=mem_row r t h
   exact⟨p,List.mem_cons_of_mem _ hp,e⟩
  cases kd with
  |w=>
   rcases List.mem_cons.1 h with rfl|h
   ·exact⟨_,List.mem_cons_self ..,rfl⟩
   ·exact step h
  |h=>exact step h
  |q=>exact step h
  |c=>exact step h
  |f=>exact step h
def flB (l:List Oper)(hs:List Nat)(lates:List (Nat×Nat×Nat))(top:List Nat)(os:List Oper)(s1 s2:List (Kd×Nat))(f:Nat)(d:Tmp):Bool:=
 let late:=fun i=>((lates.lookup i).map (·.1)).getD 0
 let grp:=fun i=>((lates.lookup i).map (·.2)).getD 0
 let sq:=rowOf (s1++s2)
 let hd:=hs++movesOf (s1++s2)
 let L:=listedIn hs (Array.replicate l.toArray.size false)
 let L2:=(listedP s1 L).setIfInBounds f true
 Region.noSelect l.toArray&&(rowB .any l.toArray hs sq late&&(hs.all (fun i=>decide (late i≤top.getD (grp i) 0))&&(headsB .any l.toArray hs (Array.replicate l.toArray.size false)&&(onwardB l.toArray os&&
  (hd.all (fun i=>!sq.contains i)&&(!sq.contains f&&(s1.all (fun p=>decide (p.2≠f)&&decide (p.2<l.length))&&(s2.all (fun p=>decide (p.2<l.length))&&((opsAt l s1).all (fun p=>!(p.2.looksAt l.toArray).contains d&&p.2.dst != some d)&&(partFB .any l.toArray f s1 L&&(partB .any l.toArray s2 L2&&
  (decide (Region.ready .any l.toArray (listedP s2 L2)=[])&&decide (hs.length+s1.length+1+s2.length=l.length)))))))))))))
theorem wp_region_fl {id:Nat}{Q:Exit→Act→World→Prop}{a:Act}{w:World}{l:List Oper}(ms:List Kd)(lates:List (Nat×Nat×Nat))(G:Nat→World→Prop)(top:List Nat)(s1 s2:List (Kd×Nat))(f:Nat)(ob:Obj){d:Tmp}{of:Oper}(hm:P.follows .mixedOrders=true)(hms0:Nat.ble ms.length l.length=true)
 (hf:l[f]? =some of)(hfd:of.dst=some d)(hM:Makes P l.toArray of ob)
 (hB:flB l (headsI ms 0) lates top (headsL ms l) s1 s2 f d=true)(hd:dstsB a.tmps.size (headsL ms l)=true)
 (h:∃aF:Act,(∀w1,Below w.heap.size w w1→wpQuiet P l.toArray (fun w'=>∃x:Later w1,w'=x.world) (fun a'=>a'=aF) (headsL ms l) a)∧
   (∀p∈lates,∀oi,l[p.1]? =some oi→LateOk P l.toArray (G p.2.2) oi aF)∧
   wpPart P l.toArray G top true (fun _=>True) ob (fun k C a'=>∀b,wpPart P l.toArray G top false (fun fl=>fl=some b) ob (fun k C a''=>∀w',C (some b) w'→Q .normal a'' w') (opsAt l s2) k C (a'.put (some d) (ptrTo b))) (opsAt l s1) 0 (startC w ob) aF):(Code.region id l.toArray true).wp P Q a w:=by
 have hms:ms.length≤l.length:=Nat.le_of_ble_eq_true hms0
 obtain⟨aF,H,hlate,hrun⟩:=h
 simp only[flB,Bool.and_eq_true,decide_eq_true_eq,List.all_eq_true] at hB
 obtain⟨hsel,hrow,hgrp,hheads,hon,hap,hfs,hs1,hs2,hds,hp1,hp2,hend,hlen⟩:=hB
 have sh:=rowShape hrow
 have hap':∀j∈headsI ms 0++movesOf (s1++s2),j∉rowOf (s1++s2):=fun j hj hc=>by
  have:=hap j hj
  rw[List.contains_iff_mem.2 hc] at this;cases this
 have hfs':f∉rowOf (s1++s2):=fun hc=>by rw[List.contains_iff_mem.2 hc] at hfs;cases hfs
 have hmap1:(headsI ms 0).map (fun i=>l.toArray[i]?)=(headsL ms l).map some:=by
  have:=headsI_map (l0:=l) ms 0 (by omega)
  simpa using this
 obtain⟨m1,k1⟩:=opsAt_map (l:=l) s1 (List.all_eq_true.2 fun p hp=>by simpa using(hs1 p hp).2)
 obtain⟨m2,k2⟩:=opsAt_map (l:=l) s2 (List.all_eq_true.2 fun p hp=>by simpa using hs2 p hp)
 have l1:s1.length=(opsAt l s1).length:=by have:=congrArg List.length m1;simpa using this
 have l2:s2.length=(opsAt l s2).length:=by have:=congrArg List.length m2;simpa using this
 have sq1:∀j t,(rowOf s1)[j]? =some t→(rowOf (s1++s2))[0+j]? =some t:=fun j t h=>by
  rw[rowOf_append,Nat.zero_add,List.getElem?_append_left (List.getElem?_eq_some_iff.1 h).1];exact h
 have sq2:∀j t,(rowOf s2)[j]? =some t→(rowOf (s1++s2))[0+rowCount s1+j]? =some t:=fun j t h=>by
  rw[rowOf_append,rowCount_eq,Nat.zero_add,List.getElem?_append_right (by omega),show(rowOf s1).length+j-(rowOf s1).length=j by omega];exact h
 have inv0:SeqInv .any l.toArray (rowOf (s1++s2)) 0 (Array.replicate l.toArray.size false):=
  ⟨by simp,fun j oj _ hl=>(by rw[getD_replicate_false] at hl;cases hl),fun k' t _ hs=>by
    refine getD_in ?_ (getD_replicate_false _ _)
    obtain⟨p,hp,rfl⟩:=mem_row _ t (List.mem_of_getElem? hs)
    rcases List.mem_append.1 hp with hp|hp
    ·simpa using(hs1 p hp).2
    ·simpa using hs2 p hp,fun k' t hk hs=>by omega⟩
 have HZ:=fun hinv=>wpZ_partF (P:=P) (md:=.any) (ops:=l.toArray) (hd:=headsI ms 0++movesOf (s1++s2)) (sq:=rowOf (s1++s2)) (f:=f) (ob:=ob) (G:=G) (top:=top) (Q:=Q) (m:=(opsAt l s2).length+0)
  (E:=fun k C a'=>∀b,wpPart P l.toArray G top false (fun fl=>fl=some b) ob (fun k C a''=>∀w',C (some b) w'→Q .normal a'' w') (opsAt l s2) k C (a'.put (some d) (ptrTo b)))
  (EF:=fun b k C a'=>wpPart P l.toArray G top false (fun fl=>fl=some b) ob (fun k C a''=>∀w',C (some b) w'→Q .normal a'' w') (opsAt l s2) k C a')
  (by simpa using hf) hfd hM hfs' (Region.noSelect_spec hsel) sh.once hap' (fun b k C a h=>h b) (opsAt l s1) s1 0 (startC w ob) (listedIn (headsI ms 0) (Array.replicate l.toArray.size false)) aF (by simpa using m1) k1
  (fun p hp=>⟨fun hq=>List.mem_append.2 (.inr (mem_moves _ p (List.mem_append.2 (.inl hp)) hq)),(hs1 p hp).1⟩) sq1 hinv
  (fun p hp=>by
    have h1:=hds p hp
    simp only[Bool.not_eq_true',bne_iff_ne,ne_eq] at h1
    have hx:some p.2∈(opsAt l s1).map (fun p=>some p.2):=List.mem_map.2 ⟨p,hp,rfl⟩
    rw[←m1] at hx
    obtain⟨q,hq,hq2⟩:=List.mem_map.1 hx
    refine⟨fun cs b=>Region.noSelect_spec hsel q.2 p.2 cs b (by simpa using hq2),fun hc=>?_,h1.2⟩
    have h2:=h1.1
    rw[List.contains_iff_mem.2 hc] at h2;cases h2) hp1 (startC_grow w ob)
  (fun b k' C' a' hE' hk' hi'=>by
    subst hk'
    exact wpZ_part (m:=0) (hd:=headsI ms 0++movesOf (s1++s2)) (sq:=rowOf (s1++s2)) (Q:=Q) (F:=fun fl=>fl=some b) (fl:=some b) rfl (Region.noSelect_spec hsel) sh.once hap' (opsAt l s2) s2 _ C' _ a' (by simpa using m2) k2
     (fun p hp hq=>List.mem_append.2 (.inr (mem_moves _ p (List.mem_append.2 (.inr hp)) hq))) sq2 hi' hp2 (fun k2 C2 a2 hE2 _ _=>⟨hend,hE2⟩) hE') hrun
 have HF:=wpZ_lexH (md:=.any) (hd:=headsI ms 0++movesOf (s1++s2)) (f:=f) (ob:=ob) (w0:=w) (fl:=none) (r:=(opsAt l s1).length+((opsAt l s2).length+0+1)) (late:=fun i=>((lates.lookup i).map (·.1)).getD 0) (grp:=fun i=>((lates.lookup i).map (·.2)).getD 0) (Q:=Q) hsel sh
  (fun i hi=>List.mem_append.2 (.inl hi)) hap' hgrp
  (fun i hi oi hoi hpos=>by
    cases hlk:lates.lookup i with
    |none=>rw[hlk] at hpos;simp at hpos
    |some m=>
     have hmem:=lookup_mem3 lates i m hlk
     have:=hlate (i,m) hmem oi (by simpa using hoi)
     simpa[hlk] using this)
  (headsI ms 0) (headsL ms l) _ a hmap1 (fun i hi=>hi) inv0 hd hon hheads HZ H
 refine wp_region_any hm ?_
 have:=wpAny_of_Z (Q':=Q) _ 0 _ none _ _ _ ⟨⟨⟨_,(Below.refl w.heap.size w).drew⟩,rfl⟩,fun b hb=>by cases hb⟩ HF
 rw[show(headsI ms 0).length+((opsAt l s1).length+((opsAt l s2).length+0+1))=l.toArray.size by simp only[List.size_toArray];omega] at this
 exact this
def scB (l:List Oper)(hs:List Nat)(lates:List (Nat×Nat×Nat))(top:List Nat)(os:List Oper)(s:List (Kd×Nat)):Bool:=
 let late:=fun i=>((lates.lookup i).map (·.1)).getD 0
 let grp:=fun i=>((lates.lookup i).map (·.2)).getD 0
 let sq:=rowOf s
 let hd:=hs++movesOf s
 let L:=listedIn hs (Array.replicate l.toArray.size false)
 Region.noSelect l.toArray&&(rowB .any l.toArray hs sq late&&(hs.all (fun i=>decide (late i≤top.getD (grp i) 0))&&(headsB .any l.toArray hs (Array.replicate l.toArray.size false)&&(onwardB l.toArray os&&
  (hd.all (fun i=>!sq.contains i)&&(s.all (fun p=>decide (p.2<l.length))&&(partB .any l.toArray s L&&(decide (Region.ready .any l.toArray (listedP s L)=[])&&decide (hs.length+s.length=l.length)))))))))
theorem wp_region_sc {id:Nat}{Q:Exit→Act→World→Prop}{a:Act}{w:World}{l:List Oper}(ms:List Kd)(lates:List (Nat×Nat×Nat))(G:Nat→World→Prop)(top:List Nat)(s:List (Kd×Nat))(hm:P.follows .mixedOrders=true)(hms0:Nat.ble ms.length l.length=true)
 (hB:scB l (headsI ms 0) lates top (headsL ms l) s=true)(hd:dstsB a.tmps.size (headsL ms l)=true)
 (h:∃aF:Act,(∀w1,Below w.heap.size w w1→wpQuiet P l.toArray (fun w'=>∃x:Later w1,w'=x.world) (fun a'=>a'=aF) (headsL ms l) a)∧
   (∀p∈lates,∀oi,l[p.1]? =some oi→LateOk P l.toArray (G p.2.2) oi aF)∧
   wpPart P l.toArray G top false (fun fl=>fl=none) (.cells #[] 0) (fun k C a''=>∀w',C none w'→Q .normal a'' w') (opsAt l s) 0 (startC w (.cells #[] 0)) aF):(Code.region id l.toArray true).wp P Q a w:=by
 have hms:ms.length≤l.length:=Nat.le_of_ble_eq_true hms0
 obtain⟨aF,H,hlate,hrun⟩:=h
 simp only[scB,Bool.and_eq_true,decide_eq_true_eq,List.all_eq_true] at hB
 obtain⟨hsel,hrow,hgrp,hheads,hon,hap,hs1,hp1,hend,hlen⟩:=hB
 have sh:=rowShape hrow
 have hap':∀j∈headsI ms 0++movesOf s,j∉rowOf s:=fun j hj hc=>by
  have:=hap j hj
  rw[List.contains_iff_mem.2 hc] at this;cases this
 have hmap1:(headsI ms 0).map (fun i=>l.toArray[i]?)=(headsL ms l).map some:=by
  have:=headsI_map (l0:=l) ms 0 (by omega)
  simpa using this
 obtain⟨m1,k1⟩:=opsAt_map (l:=l) s (List.all_eq_true.2 fun p hp=>by simpa using hs1 p hp)
 have l1:s.length=(opsAt l s).length:=by have:=congrArg List.length m1;simpa using this
 have inv0:SeqInv .any l.toArray (rowOf s) 0 (Array.replicate l.toArray.size false):=
  ⟨by simp,fun j oj _ hl=>(by rw[getD_replicate_false] at hl;cases hl),fun k' t _ hs=>by
    refine getD_in ?_ (getD_replicate_false _ _)
    obtain⟨p,hp,rfl⟩:=mem_row _ t (List.mem_of_getElem? hs)
    simpa using hs1 p hp,fun k' t hk hs=>by omega⟩
 have HZ:=fun hinv=>wpZ_part (P:=P) (md:=.any) (ops:=l.toArray) (f:=l.length) (G:=G) (top:=top) (m:=0) (hd:=headsI ms 0++movesOf s) (sq:=rowOf s) (Q:=Q) (F:=fun fl=>fl=none) (fl:=none) (pend:=false) (ob:=.cells #[] 0) (E:=fun k C a''=>∀w',C none w'→Q .normal a'' w') rfl (Region.noSelect_spec hsel) sh.once hap' (opsAt l s) s 0 (startC w (.cells #[] 0)) (listedIn (headsI ms 0) (Array.replicate l.toArray.size false)) aF (by simpa using m1) k1
  (fun p hp hq=>List.mem_append.2 (.inr (mem_moves _ p hp hq))) (fun j t h=>by rw[Nat.zero_add];exact h) hinv hp1 (fun k2 C2 a2 hE2 _ _=>⟨hend,hE2⟩) hrun
 have HF:=wpZ_lexH (md:=.any) (hd:=headsI ms 0++movesOf s) (f:=l.length) (ob:=.cells #[] 0) (w0:=w) (fl:=none) (r:=(opsAt l s).length+0) (late:=fun i=>((lates.lookup i).map (·.1)).getD 0) (grp:=fun i=>((lates.lookup i).map (·.2)).getD 0) (Q:=Q) hsel sh
  (fun i hi=>List.mem_append.2 (.inl hi)) hap' hgrp
  (fun i hi oi hoi hpos=>by
    cases hlk:lates.lookup i with
    |none=>rw[hlk] at hpos;simp at hpos
    |some m=>
     have hmem:=lookup_mem3 lates i m hlk
     have:=hlate (i,m) hmem oi (by simpa using hoi)
     simpa[hlk] using this)
  (headsI ms 0) (headsL ms l) _ a hmap1 (fun i hi=>hi) inv0 hd hon hheads HZ H
 refine wp_region_any hm ?_
 have:=wpAny_of_Z (Q':=Q) _ 0 _ none _ _ _ ⟨⟨⟨_,(Below.refl w.heap.size w).drew⟩,rfl⟩,fun b hb=>by cases hb⟩ HF
 rw[show(headsI ms 0).length+((opsAt l s).length+0)=l.toArray.size by simp only[List.size_toArray];omega] at this
 exact this
end
end
section
open Go.RowKit
theorem band_low (z:Int)(k:Nat)(h0:0≤z)(h1:z<18446744073709551616)(hk:k≤63):bits .and .u64 z ((2^k-1:Nat):Int)=z%((2^k:Nat):Int):=by
 have h2:2^k≤2^63:=Nat.pow_le_pow_right (by omega) hk
 have h3:=Nat.two_pow_pos k
 have:=u64_and_nat z.toNat (2^k-1) (by omega) (by omega)
 rw[Nat.and_two_pow_sub_one_eq_mod,Int.toNat_of_nonneg h0] at this
 have e:((2^k:Nat):Int)=(((2^k-1:Nat):Int))+1:=by omega
 rw[this,Int.natCast_emod,Int.toNat_of_nonneg h0]
theorem behind_any (k:Int)(w:World):Calls Tryz.prog 93 #[.int .u8 k] w fun e w'=>e=.returned (.bool (behindB k))∧w=w':=by
 have H:Hid (behindB k=(k==0||k==43||k==44||k==60)):=Lib.hid rfl
 generalize behindB k=B at*
 go_enter Tryz.func93,Tryz.ntmps93
 go_wp2_with fail
 all_goals
  go_ret
  refine⟨?_,rfl⟩
  rw[H.out]
  simp_all
def saysV (d:List Int):Value:=.tuple #[.int .u16 (saysN d/8),.int .u8 (saysN d/2%4),.bool (saysN d%2==1)]
theorem saysN_bd {d:List Int}(h:IsBytes d):0≤saysN d∧saysN d<65536:=by
 unfold saysN
 split
 ·exact⟨Int.le_refl 0,by decide⟩
 ·exact w2_bd h 0
theorem says_any (k:Int)(oa:Option Addr)(cap:Nat)(d:List Int)(w:World)(hr:Reads w oa d.length cap d)(hn:d.length≤100000):
 Calls Tryz.prog 151 #[.agg #[.int .u8 k,.slice oa d.length cap]] w (RetAt w (saysV d)):=by
 have HR:=Lib.hid hr
 have hb:=saysN_bd hr.byte
 have HV:Hid (RetAt w (saysV d)=RetAt w (.tuple #[.int .u16 (saysN d/8),.int .u8 (saysN d/2%4),.bool (saysN d%2==1)])):=Lib.hid rfl
 have HG:Hid (∀w1,Reads w1 oa d.length cap d→∃err,Calls Tryz.prog 81 #[.slice oa d.length cap,.int .i64 0,.int .i64 2] w1 (RetAt w1 (.tuple #[.int .u64 (saysN d),.int .i64 err]))):=Lib.hid (fun w1 h1=>by
  by_cases h:d.length<2
  ·refine⟨10,?_⟩
   have:=Bits.get_short oa d.length cap 0 2 w1 (by omega) (by omega) (by omega) (by omega) (by omega)
   unfold saysN;rw[if_pos h];exact this
  ·refine⟨0,?_⟩
   have:=Bits.get_ok oa d.length cap d 0 2 w1 h1 (by omega) (by omega) (by omega) (by omega)
   unfold saysN;rw[if_neg h,←numAt_two d 0 (by omega)];exact this)
 clear hr
 generalize saysN d=s at*
 have a3:=band_low (s/2) 2 (by omega) (by omega) (by omega)
 have a1:=band_low s 1 (by omega) (by omega) (by omega)
 rw[show(((2^2-1:Nat)):Int)=3 from rfl,show(((2^2:Nat)):Int)=4 from rfl] at a3
 rw[show(((2^1-1:Nat)):Int)=1 from rfl,show(((2^1:Nat)):Int)=2 from rfl] at a1
 rw[HV.out]
 generalize d.length=n at*
 go_enter Tryz.func151,Tryz.ntmps151
 go_wp2_with fail
 obtain⟨err,hg⟩:=HG.out _ (HR.out.alloc _)
 refine Calls.later0 hg ?_
 intro x
 go_wp2_with fail
 go_ret3
 exact .mk rfl x.below
theorem decide_nat (a b:Nat):decide ((a:Int)≤(b:Int))=decide (a≤b):=by rw[Bool.eq_iff_iff];simp
theorem xright_any (k:Int)(oa:Option Addr)(cap:Nat)(d:List Int)(w:World)(hr:Reads w oa d.length cap d)(hn:d.length≤100000):
 Calls Tryz.prog 91 #[.agg #[.int .u8 k,.slice oa d.length cap]] w (RetAt w (.bool (xRight k d))):=by
 have HR:=Lib.hid hr
 have hb:=saysN_bd hr.byte
 have HV:Hid (xRight k d=if k=44 then decide (d.length=6)&&decide (saysN d/2%4=0) else behindB k&&(decide (d.length%8=6)&&decide (d.length≤2046))):=Lib.hid rfl
 have HS:Hid (∀w1,Reads w1 oa d.length cap d→Calls Tryz.prog 151 #[.agg #[.int .u8 k,.slice oa d.length cap]] w1 (RetAt w1 (.tuple #[.int .u16 (saysN d/8),.int .u8 (saysN d/2%4),.bool (saysN d%2==1)]))):=Lib.hid (fun w1 h1=>says_any k oa cap d w1 h1 hn)
 clear hr
 generalize saysN d=s at*
 generalize xRight k d=V at*
 generalize d.length=n at*
 by_cases h4:k=44
 ·have HE:Hid (V=(decide (n=6)&&decide (s/2%4=0))):=Lib.hid (by rw[HV.out,if_pos h4])
  obtain rfl:=h4
  clear HV
  go_enter Tryz.func91,Tryz.ntmps91
  go_wp2_with fail
  refine Calls.later0 (HS.out _ (HR.out.alloc _)) ?_
  intro x
  by_cases h6:n=6
  ·subst h6
   go_wp2_with fail
   go_ret
   refine .mk (val_bool ?_) x.below
   rw[HE.out];rfl
  ·have d6:((n:Int)==6)=false:=by simp;omega
   go_wp2_with fail
   go_ret
   refine .mk (val_bool ?_) x.below
   rw[HE.out,decide_eq_false h6];rfl
 ·have HE:Hid (V=(behindB k&&(decide (n%8=6)&&decide (n≤2046)))):=Lib.hid (by rw[HV.out,if_neg h4])
  have h4':(k != 44)=true:=by simpa using h4
  clear HV HS h4
  generalize hB:behindB k=B at*
  have HB:=Lib.hid hB
  clear hB
  cases B
  ·go_enter Tryz.func91,Tryz.ntmps91
   go_wp2_with (go_at_call 93;refine(behind_any _ _).mono ?_;rintro e w' ⟨rfl,rfl⟩;rw[HB.out])
   go_ret
   refine .mk (val_bool ?_) (Below.all (Below.refl _ _) _)
   rw[HE.out];rfl
  ·have htm:Int.tmod (n:Int) 8=((n%8:Nat):Int):=by rw[Int.tmod_eq_emod_of_nonneg (by omega)];omega
   by_cases h8:n%8=6
   ·have d8:((n:Int)%8==6)=true:=by simp;omega
    have htm':(Int.tmod (n:Int) 8==6)=true:=by rw[htm,h8];rfl
    clear htm
    go_enter Tryz.func91,Tryz.ntmps91
    go_wp2_with (go_at_call 93;refine(behind_any _ _).mono ?_;rintro e w' ⟨rfl,rfl⟩;rw[HB.out])
    go_ret
    refine .mk (val_bool ?_) (Below.all (Below.refl _ _) _)
    rw[HE.out,decide_eq_true h8,←decide_nat];rfl
   ·have d8:((n:Int)%8==6)=false:=by simp;omega
    have htm':(Int.tmod (n:Int) 8==6)=false:=by rw[htm];simp;omega
    clear htm
    go_enter Tryz.func91,Tryz.ntmps91
    go_wp2_with (go_at_call 93;refine(behind_any _ _).mono ?_;rintro e w' ⟨rfl,rfl⟩;rw[HB.out])
    go_ret
    refine .mk (val_bool ?_) (Below.all (Below.refl _ _) _)
    rw[HE.out,decide_eq_false h8];rfl
theorem xlater_any (k:Int)(oa:Option Addr)(cap:Nat)(d:List Int)(w:World)(hr:Reads w oa d.length cap d)(hn:d.length≤100000):
 Calls Tryz.prog 92 #[.agg #[.int .u8 k,.slice oa d.length cap]] w (RetAt w (.bool (xLater k d))):=by
 have HR:=Lib.hid hr
 have hb:=saysN_bd hr.byte
 have HV:Hid (xLater k d=(decide (k=44)&&decide (0<saysN d/8))):=Lib.hid rfl
 have HS:Hid (∀w1,Reads w1 oa d.length cap d→Calls Tryz.prog 151 #[.agg #[.int .u8 k,.slice oa d.length cap]] w1 (RetAt w1 (.tuple #[.int .u16 (saysN d/8),.int .u8 (saysN d/2%4),.bool (saysN d%2==1)]))):=Lib.hid (fun w1 h1=>says_any k oa cap d w1 h1 hn)
 clear hr
 generalize saysN d=s at*
 generalize xLater k d=V at*
 generalize d.length=n at*
 by_cases h4:k=44
 ·have HE:Hid (V=decide (0<s/8)):=Lib.hid (by rw[HV.out,decide_eq_true h4];rfl)
  obtain rfl:=h4
  clear HV
  go_enter Tryz.func92,Tryz.ntmps92
  go_wp2_with fail
  refine Calls.later (HS.out _ (HR.out.alloc _)) ?_
  intro x
  go_wp2_with fail
  go_ret
  refine .mk (val_bool ?_) (Below.lat (Below.all (Below.refl _ _) _))
  rw[HE.out]
 ·have HE:Hid (V=false):=Lib.hid (by rw[HV.out,decide_eq_false h4];rfl)
  have h4':(k==44)=false:=by simpa using h4
  clear HV h4
  go_enter Tryz.func92,Tryz.ntmps92
  go_wp2_with fail
  refine Calls.later (HS.out _ (HR.out.alloc _)) ?_
  intro x
  go_wp2_with fail
  go_ret
  refine .mk (val_bool HE.out.symm) (Below.lat (Below.all (Below.refl _ _) _))
end
section
open Go.RowKit Bits
theorem stop_tmp (n:Nat){P:Program}{ops:Array Oper}{Q:Exit→Act→World→Prop}{op:Op}{ty:TypeId}{pos:String}{after:Array Edge}{g:Option (Nat×Bool)}{rest:List Oper}{a:Act}{w:World}
 (h:Stopped (wpList P ops Q (⟨some n,op,ty,pos,after,g⟩::rest) a w)):wpList P ops Q (⟨some n,op,ty,pos,after,g⟩::rest) a w:=h.of
theorem strN_append (a b:List Int):strOfNums a++strOfNums b=strOfNums (a++b):=by
 apply ByteArray.ext
 rw[ByteArray.data_append]
 simp[strOfNums]
theorem strN_get (l:List Int)(hb:∀v∈l,0≤v∧v<256)(j:Nat)(h:j<l.length):(((strOfNums l).data.toList.getD j 0).toNat:Int)=l.getD j 0:=by
 have hv:=hb l[j] (List.getElem_mem h)
 rw[strOfNums_data,List.getD_eq_getElem?_getD,List.getElem?_map,List.getElem?_eq_getElem h,List.getD_eq_getElem?_getD,List.getElem?_eq_getElem h]
 simp only[Option.map_some,Option.getD_some]
 rw[UInt8.toNat_ofNat',Nat.mod_eq_of_lt (by omega)]
 omega
section
variable {P:Program}
theorem run_tobytes (src dst e:TypeId)(w:World)(hs:P.underlying src=some .string)(hd:P.underlying dst=some (.slice e))(he:P.underlying e=some (.int .u8))(l:List Int)(hl:∀v∈l,0≤v∧v<256)(hn:l.length≤1000000):
 ∃cap w',(convert src dst (.string (strOfNums l))).run P w=.ok (.slice (some ⟨w.heap.size,0,none⟩) l.length cap) w'∧Below w.heap.size w w'∧Reads w' (some ⟨w.heap.size,0,none⟩) l.length cap l:=by
 have h:=Lib.run_convert_string_bytes w src dst e (strOfNums l) hs hd he
 rw[strOfNums_size] at h
 refine⟨_,_,h,?_,?_⟩
 ·exact⟨rfl,rfl,rfl,by rw[Lib.bytesWorld_size];omega,fun b hb=>Lib.bytesWorld_at_old w e _ b hb⟩
 ·refine⟨rfl,?_,?_,hl,.inr ⟨_,0,rfl,by rw[Lib.bytesWorld_size];omega,fun j hj=>?_⟩⟩
  ·exact grownCap_ge _ _ _ _
  ·exact grownCap_le_maxLen _ _ _ _ (by unfold maxLen;omega)
  ·rw[Nat.zero_add,Lib.bytesWorld_cell _ _ _ _ (by rw[strOfNums_size];exact hj),strN_get l hl j hj]
theorem wpList_tobytes (w:World){ops:Array Oper}{rest:List Oper}{o:Oper}{a:Act}{Q:Exit→Act→World→Prop}
 (hg:o.guard=none)(src dst:TypeId)(x:Operand)(hop:o.op=Op.convert src dst x)(e:TypeId)(hs:P.underlying src=some .string)(hd:P.underlying dst=some (.slice e))(he:P.underlying e=some (.int .u8))
 (l:List Int)(hx:a.eval x=.string (strOfNums l))(hl:∀v∈l,0≤v∧v<256)(hn:l.length≤1000000)
 (h:∀cap w',Below w.heap.size w w'→Reads w' (some ⟨w.heap.size,0,none⟩) l.length cap l→wpList P ops Q rest (a.put o.dst (.slice (some ⟨w.heap.size,0,none⟩) l.length cap)) w'):
 wpList P ops Q (o::rest) a w:=by
 refine wpList_plain hg fun K hK'=>?_
 obtain⟨cap,w',hrun,h2,h3⟩:=run_tobytes (P:=P) src dst e w hs hd he l hl hn
 unfold Oper.wp
 simp[execOp,hop,hx,hrun,Result.andThen]
 exact hK' _ _ (h cap w' h2 h3)
end
end
end Go.Proofs.YtkgjbipfhhjlpaaGreatDoor
