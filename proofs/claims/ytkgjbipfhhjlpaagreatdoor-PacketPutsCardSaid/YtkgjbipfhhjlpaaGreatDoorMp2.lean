import Derived.Test.YtkgjbipfhhjlpaaGreatDoorMp1
import Derived.Laws.CopyOwn
set_option linter.unusedVariables false
set_option linter.unusedSimpArgs false
set_option maxRecDepth 100000
set_option maxHeartbeats 32000000
namespace Go.Proofs.YtkgjbipfhhjlpaaGreatDoor
section
open Go.RowKit
def adV (six:Bool)(B:Nat→Int):Value:=.agg #[.bool six,.int .u8 (B 0),.int .u8 (B 1),.int .u8 (B 2),.int .u8 (B 3),.int .u8 (B 4),.int .u8 (B 5),.int .u8 (B 6),.int .u8 (B 7),.int .u8 (B 8),.int .u8 (B 9),.int .u8 (B 10),.int .u8 (B 11),.int .u8 (B 12),.int .u8 (B 13),.int .u8 (B 14),.int .u8 (B 15)]
def U8 (B:Nat→Int):Prop:=∀i,0≤B i∧B i<256
def sizeZ (six:Bool):Int:=if six then 16 else 4
theorem size_any (six:Bool)(B:Nat→Int)(w:World):Calls Tryz.prog 123 #[adV six B] w (RetAt w (.int .i64 (sizeZ six))):=by
 unfold adV
 cases six
 all_goals
  go_enter Tryz.func123,Tryz.ntmps123
  go_wp2_with fail
  go_ret
  exact .mk rfl (Below.all (Below.refl _ _) _)
theorem rsize_any (six:Bool)(w:World):Calls Tryz.prog 95 #[.bool six] w fun e w'=>e=.returned (.int .i64 (sizeZ six))∧w=w':=by
 cases six
 all_goals
  go_enter Tryz.func95,Tryz.ntmps95
  go_wp2_with fail
  go_ret
  exact⟨rfl,rfl⟩
def eqL:List Int→List Int→Bool
 |[],[]=>true
 |x::l,y::m=>if x==y then eqL l m else false
 |_,_=>false
theorem eqL_iff:∀(l m:List Int),eqL l m=true↔l=m
 |[],[]=>by simp[eqL]
 |x::l,y::m=>by
  rw[eqL]
  by_cases h:x=y
  ·subst h;simp[eqL_iff l m]
  ·simp[h]
 |[],y::m=>by simp[eqL]
 |x::l,[]=>by simp[eqL]
def b16 (B:Nat→Int):List Int:=[B 0,B 1,B 2,B 3,B 4,B 5,B 6,B 7,B 8,B 9,B 10,B 11,B 12,B 13,B 14,B 15]
theorem b16_get (B:Nat→Int)(i:Nat)(h:i<16):(b16 B)[i]? =some (B i):=by
 unfold b16
 rcases i with _|_|_|_|_|_|_|_|_|_|_|_|_|_|_|_|i
 all_goals first|rfl|omega
theorem b16_eq {B C:Nat→Int}:b16 B=b16 C↔∀i,i<16→B i=C i:=by
 constructor
 ·intro h i hi
  have:=b16_get B i hi
  rw[h,b16_get C i hi] at this
  exact(Option.some.inj this).symm
 ·intro h
  unfold b16
  simp[h]
theorem run_equalIn_16 (w:World)(d:Nat)(x0 x1 x2 x3 x4 x5 x6 x7 x8 x9 x10 x11 x12 x13 x14 x15 y0 y1 y2 y3 y4 y5 y6 y7 y8 y9 y10 y11 y12 y13 y14 y15:Int):
 (Op.equalIn (d+2) 25 (.agg #[.int .u8 x0,.int .u8 x1,.int .u8 x2,.int .u8 x3,.int .u8 x4,.int .u8 x5,.int .u8 x6,.int .u8 x7,.int .u8 x8,.int .u8 x9,.int .u8 x10,.int .u8 x11,.int .u8 x12,.int .u8 x13,.int .u8 x14,.int .u8 x15]) (.agg #[.int .u8 y0,.int .u8 y1,.int .u8 y2,.int .u8 y3,.int .u8 y4,.int .u8 y5,.int .u8 y6,.int .u8 y7,.int .u8 y8,.int .u8 y9,.int .u8 y10,.int .u8 y11,.int .u8 y12,.int .u8 y13,.int .u8 y14,.int .u8 y15])).run Tryz.prog w=.ok (eqL [x0,x1,x2,x3,x4,x5,x6,x7,x8,x9,x10,x11,x12,x13,x14,x15] [y0,y1,y2,y3,y4,y5,y6,y7,y8,y9,y10,y11,y12,y13,y14,y15]) w:=by
 have hr:List.range' 0 16=[0,1,2,3,4,5,6,7,8,9,10,11,12,13,14,15]:=by decide
 rw[Op.equalIn]
 simp only[Sem.run_bind,run_underlying Tryz.underlying25,Result.andThen_ok]
 simp[go_sem,Std.Legacy.Range.forIn_eq_forIn_range',Std.Legacy.Range.size,hr]
 simp only[eqL,beq_iff_eq]
 have hi:∀(c:Prop) [Decidable c] (a b:Bool),(Result.ok (if c then a else b) w:Result Bool)=if c then Result.ok a w else Result.ok b w:=fun c _ a b=>by split<;>rfl
 simp only[hi]
attribute [go_sem] run_equalIn_16
def rightB (six:Bool)(B:Nat→Int):Bool:=six||(List.range 12).all fun i=>B (4+i)==0
theorem rightB_four {B:Nat→Int}:rightB false B=true↔∀i,4≤i→i<16→B i=0:=by
 unfold rightB
 simp only[Bool.false_or,List.all_eq_true,List.mem_range,beq_iff_eq]
 constructor
 ·intro h i h4 h16
  have:=h (i-4) (by omega)
  rwa [show 4+(i-4)=i by omega] at this
 ·intro h i hi;exact h _ (by omega) (by omega)
theorem eqL_right (B:Nat→Int):eqL (b16 B) (b16 fun i=>if i<4 then B i else 0)=rightB false B:=by
 rw[Bool.eq_iff_iff,eqL_iff,b16_eq,rightB_four]
 constructor
 ·intro h i h4 h16;have:=h i h16;rw[if_neg (by omega)] at this;exact this
 ·intro h i hi
  split
  ·rfl
  ·exact h i (by omega) hi
def bytesL (n:Nat)(B:Nat→Int):List Value:=(List.range n).map fun i=>.int .u8 (B i)
theorem bytesL_get (n:Nat)(B:Nat→Int)(j:Nat)(u:Value)(h:(bytesL n B)[j]? =some u):j<n∧u=.int .u8 (B j):=by
 unfold bytesL at h
 rw[List.getElem?_map] at h
 by_cases hj:j<n
 ·rw[List.getElem?_range hj] at h
  exact⟨hj,by simpa using h.symm⟩
 ·rw[List.getElem?_eq_none (by simpa using hj)] at h;cases h
theorem bytesL_len (n:Nat)(B:Nat→Int):(bytesL n B).length=n:=by simp[bytesL]
theorem bytesL_one (n:Nat)(B:Nat→Int):∀u∈bytesL n B,u.oneCell'=true:=by
 intro u hu
 obtain⟨i,-,rfl⟩:=List.mem_map.1 hu
 rfl
theorem ad_cell {w:World}{b:Nat}{s:Bool}{B:Nat→Int}(h:∀j,w.cell? ⟨b,j,none⟩=(#[.bool s,.int .u8 (B 0),.int .u8 (B 1),.int .u8 (B 2),.int .u8 (B 3),.int .u8 (B 4),.int .u8 (B 5),.int .u8 (B 6),.int .u8 (B 7),.int .u8 (B 8),.int .u8 (B 9),.int .u8 (B 10),.int .u8 (B 11),.int .u8 (B 12),.int .u8 (B 13),.int .u8 (B 14),.int .u8 (B 15)]:Array Value)[j]?)(j:Nat)(hj:j<16):w.cell? ⟨b,1+j,none⟩=some (.int .u8 (B j)):=by
 rw[h]
 rcases j with _|_|_|_|_|_|_|_|_|_|_|_|_|_|_|_|j
 all_goals first|rfl|omega
theorem right_four (B:Nat→Int)(w:World):Calls Tryz.prog 68 #[adV false B] w (RetAt w (.bool (rightB false B))):=by
 have hsz:∀w,Calls Tryz.prog 123 #[adV false B] w (RetAt w (.int .i64 4)):=size_any false B
 unfold adV at hsz⊢
 go_enter Tryz.func68,Tryz.ntmps68
 go_wp2_with fail
 refine wp_region_tail 5 (by kernel_rfl) (by kernel_rfl) ?_
 simp only[List.take_succ_cons,List.take_zero,List.drop_succ_cons,List.drop_zero]
 repeat go_big_quiet_step ((go_at_call 123;exact later_call (hsz _)))
 refine wpQuiet_nil ?_
 intro x
 have hA0:=(x.below.block _ (by simp;omega)).trans (heap_alloc2_old w (.cells #[.bool false,.int .u8 (B 0),.int .u8 (B 1),.int .u8 (B 2),.int .u8 (B 3),.int .u8 (B 4),.int .u8 (B 5),.int .u8 (B 6),.int .u8 (B 7),.int .u8 (B 8),.int .u8 (B 9),.int .u8 (B 10),.int .u8 (B 11),.int .u8 (B 12),.int .u8 (B 13),.int .u8 (B 14),.int .u8 (B 15)] 27) (.cells #[.int .u8 0,.int .u8 0,.int .u8 0,.int .u8 0,.int .u8 0,.int .u8 0,.int .u8 0,.int .u8 0,.int .u8 0,.int .u8 0,.int .u8 0,.int .u8 0,.int .u8 0,.int .u8 0,.int .u8 0,.int .u8 0] 25))
 have hP0:=(x.below.block _ (by simp)).trans (heap_alloc2_new w (.cells #[.bool false,.int .u8 (B 0),.int .u8 (B 1),.int .u8 (B 2),.int .u8 (B 3),.int .u8 (B 4),.int .u8 (B 5),.int .u8 (B 6),.int .u8 (B 7),.int .u8 (B 8),.int .u8 (B 9),.int .u8 (B 10),.int .u8 (B 11),.int .u8 (B 12),.int .u8 (B 13),.int .u8 (B 14),.int .u8 (B 15)] 27) (.cells (List.replicate 16 (Value.int .u8 0)).toArray 25))
 have hxb:Below w.heap.size w x.world:=Below.lat (Below.all (Below.all (Below.refl _ _) _) _)
 have hxs:w.heap.size+1<x.world.heap.size:=by have:=x.below.size;simp at this;omega
 refine wpList_copy_splice rfl (.tmp 6) (.tmp 8) 22 22 rfl 5 Tryz.underlying22 (by kernel_rfl) (some ⟨w.heap.size+1,0,none⟩) (some ⟨w.heap.size,1,none⟩) 4 16 16 16 rfl rfl (w.heap.size+1) 0
  (List.replicate 16 (.int .u8 0)) 25 hP0 (bytesL 4 B) (bytesL_len _ _) (fun _=>⟨rfl,_,rfl,fun j v hv=>?_⟩) (by rw[bytesL_len];decide) (bytesL_one _ _) (w.heap.size+1) x.world (Below.refl _ _) (Nat.le_refl _) ?_
 ·obtain⟨hj,rfl⟩:=bytesL_get _ _ _ _ hv
  rw[Addr.add_lit]
  exact ad_cell (fun j=>cell_of_row _ _ j _ _ (0,0) hA0) j (by omega)
 intro w' hg hb
 have hA1:=(hb.block _ (by simp)).trans hA0
 have hP1:w'.heap[w.heap.size+1]? =some (.cells #[.int .u8 (B 0),.int .u8 (B 1),.int .u8 (B 2),.int .u8 (B 3),.int .u8 0,.int .u8 0,.int .u8 0,.int .u8 0,.int .u8 0,.int .u8 0,.int .u8 0,.int .u8 0,.int .u8 0,.int .u8 0,.int .u8 0,.int .u8 0] 25 (0,0)):=hg.out
 have hA:partOf w' w.heap.size 1 16=#[.int .u8 (B 0),.int .u8 (B 1),.int .u8 (B 2),.int .u8 (B 3),.int .u8 (B 4),.int .u8 (B 5),.int .u8 (B 6),.int .u8 (B 7),.int .u8 (B 8),.int .u8 (B 9),.int .u8 (B 10),.int .u8 (B 11),.int .u8 (B 12),.int .u8 (B 13),.int .u8 (B 14),.int .u8 (B 15)]:=by rw[partOf_row _ _ _ _ _ _ _ hA1];simp
 have hP:partOf w' (w.heap.size+1) 0 16=#[.int .u8 (B 0),.int .u8 (B 1),.int .u8 (B 2),.int .u8 (B 3),.int .u8 0,.int .u8 0,.int .u8 0,.int .u8 0,.int .u8 0,.int .u8 0,.int .u8 0,.int .u8 0,.int .u8 0,.int .u8 0,.int .u8 0,.int .u8 0]:=by rw[partOf_row _ _ _ _ _ _ _ hP1];simp
 have hB:Hid (Below w.heap.size w w'):=Lib.hid (hxb.trans (hb.mono (by omega)))
 clear hA0 hP0 hg hxb hxs hsz hb hA1 hP1
 go_wp2_with fail
 go_ret
 exact .mk (val_bool (eqL_right B)) hB.out
theorem right_six (B:Nat→Int)(w:World):Calls Tryz.prog 68 #[adV true B] w (RetAt w (.bool (rightB true B))):=by
 have hsz:∀w,Calls Tryz.prog 123 #[adV true B] w (RetAt w (.int .i64 16)):=size_any true B
 unfold adV at hsz⊢
 go_enter Tryz.func68,Tryz.ntmps68
 go_wp2_with fail
 refine wp_region_tail 5 (by kernel_rfl) (by kernel_rfl) ?_
 simp only[List.take_succ_cons,List.take_zero,List.drop_succ_cons,List.drop_zero]
 repeat go_big_quiet_step ((go_at_call 123;exact later_call (hsz _)))
 refine wpQuiet_nil ?_
 intro x
 have hA0:=(x.below.block _ (by simp;omega)).trans (heap_alloc2_old w (.cells #[.bool true,.int .u8 (B 0),.int .u8 (B 1),.int .u8 (B 2),.int .u8 (B 3),.int .u8 (B 4),.int .u8 (B 5),.int .u8 (B 6),.int .u8 (B 7),.int .u8 (B 8),.int .u8 (B 9),.int .u8 (B 10),.int .u8 (B 11),.int .u8 (B 12),.int .u8 (B 13),.int .u8 (B 14),.int .u8 (B 15)] 27) (.cells #[.int .u8 0,.int .u8 0,.int .u8 0,.int .u8 0,.int .u8 0,.int .u8 0,.int .u8 0,.int .u8 0,.int .u8 0,.int .u8 0,.int .u8 0,.int .u8 0,.int .u8 0,.int .u8 0,.int .u8 0,.int .u8 0] 25))
 have hP0:=(x.below.block _ (by simp)).trans (heap_alloc2_new w (.cells #[.bool true,.int .u8 (B 0),.int .u8 (B 1),.int .u8 (B 2),.int .u8 (B 3),.int .u8 (B 4),.int .u8 (B 5),.int .u8 (B 6),.int .u8 (B 7),.int .u8 (B 8),.int .u8 (B 9),.int .u8 (B 10),.int .u8 (B 11),.int .u8 (B 12),.int .u8 (B 13),.int .u8 (B 14),.int .u8 (B 15)] 27) (.cells (List.replicate 16 (Value.int .u8 0)).toArray 25))
 have hxb:Below w.heap.size w x.world:=Below.lat (Below.all (Below.all (Below.refl _ _) _) _)
 have hxs:w.heap.size+1<x.world.heap.size:=by have:=x.below.size;simp at this;omega
 refine wpList_copy_splice rfl (.tmp 6) (.tmp 8) 22 22 rfl 5 Tryz.underlying22 (by kernel_rfl) (some ⟨w.heap.size+1,0,none⟩) (some ⟨w.heap.size,1,none⟩) 16 16 16 16 rfl rfl (w.heap.size+1) 0
  (List.replicate 16 (.int .u8 0)) 25 hP0 (bytesL 16 B) (bytesL_len _ _) (fun _=>⟨rfl,_,rfl,fun j v hv=>?_⟩) (by rw[bytesL_len];decide) (bytesL_one _ _) (w.heap.size+1) x.world (Below.refl _ _) (Nat.le_refl _) ?_
 ·obtain⟨hj,rfl⟩:=bytesL_get _ _ _ _ hv
  rw[Addr.add_lit]
  exact ad_cell (fun j=>cell_of_row _ _ j _ _ (0,0) hA0) j (by omega)
 intro w' hg hb
 have hA1:=(hb.block _ (by simp)).trans hA0
 have hP1:w'.heap[w.heap.size+1]? =some (.cells #[.int .u8 (B 0),.int .u8 (B 1),.int .u8 (B 2),.int .u8 (B 3),.int .u8 (B 4),.int .u8 (B 5),.int .u8 (B 6),.int .u8 (B 7),.int .u8 (B 8),.int .u8 (B 9),.int .u8 (B 10),.int .u8 (B 11),.int .u8 (B 12),.int .u8 (B 13),.int .u8 (B 14),.int .u8 (B 15)] 25 (0,0)):=hg.out
 have hA:partOf w' w.heap.size 1 16=#[.int .u8 (B 0),.int .u8 (B 1),.int .u8 (B 2),.int .u8 (B 3),.int .u8 (B 4),.int .u8 (B 5),.int .u8 (B 6),.int .u8 (B 7),.int .u8 (B 8),.int .u8 (B 9),.int .u8 (B 10),.int .u8 (B 11),.int .u8 (B 12),.int .u8 (B 13),.int .u8 (B 14),.int .u8 (B 15)]:=by rw[partOf_row _ _ _ _ _ _ _ hA1];simp
 have hP:partOf w' (w.heap.size+1) 0 16=#[.int .u8 (B 0),.int .u8 (B 1),.int .u8 (B 2),.int .u8 (B 3),.int .u8 (B 4),.int .u8 (B 5),.int .u8 (B 6),.int .u8 (B 7),.int .u8 (B 8),.int .u8 (B 9),.int .u8 (B 10),.int .u8 (B 11),.int .u8 (B 12),.int .u8 (B 13),.int .u8 (B 14),.int .u8 (B 15)]:=by rw[partOf_row _ _ _ _ _ _ _ hP1];simp
 have hB:Hid (Below w.heap.size w w'):=Lib.hid (hxb.trans (hb.mono (by omega)))
 clear hA0 hP0 hg hxb hxs hsz hb hA1 hP1
 go_wp2_with fail
 go_ret
 exact .mk (val_bool ((eqL_iff _ _).2 rfl)) hB.out
theorem right_any (six:Bool)(B:Nat→Int)(w:World):Calls Tryz.prog 68 #[adV six B] w (RetAt w (.bool (rightB six B))):=by
 cases six
 ·exact right_four B w
 ·exact right_six B w
end
section
open Go.RowKit
structure AdBox (w:World)(b:Nat)(t:TypeId)(six:Bool)(B:Nat→Int):Prop where
 heap:w.heap[b]? =some (.cells #[.bool six,.int .u8 (B 0),.int .u8 (B 1),.int .u8 (B 2),.int .u8 (B 3),.int .u8 (B 4),.int .u8 (B 5),.int .u8 (B 6),.int .u8 (B 7),.int .u8 (B 8),.int .u8 (B 9),.int .u8 (B 10),.int .u8 (B 11),.int .u8 (B 12),.int .u8 (B 13),.int .u8 (B 14),.int .u8 (B 15)] t (0,0))
theorem AdBox.lt {w:World}{b:Nat}{t:TypeId}{six:Bool}{B:Nat→Int}(h:AdBox w b t six B):b<w.heap.size:=(Array.getElem?_eq_some_iff.1 h.heap).1
theorem AdBox.part {w:World}{b:Nat}{t:TypeId}{six:Bool}{B:Nat→Int}(h:AdBox w b t six B):partOf w b 0 17=#[.bool six,.int .u8 (B 0),.int .u8 (B 1),.int .u8 (B 2),.int .u8 (B 3),.int .u8 (B 4),.int .u8 (B 5),.int .u8 (B 6),.int .u8 (B 7),.int .u8 (B 8),.int .u8 (B 9),.int .u8 (B 10),.int .u8 (B 11),.int .u8 (B 12),.int .u8 (B 13),.int .u8 (B 14),.int .u8 (B 15)]:=by rw[partOf_row _ _ _ _ _ _ _ h.heap];simp
theorem AdBox.six {w:World}{b:Nat}{t:TypeId}{six:Bool}{B:Nat→Int}(h:AdBox w b t six B):w.cell? ⟨b,0,none⟩=some (.bool six):=by rw[cell_of_row _ _ _ _ _ _ h.heap];rfl
theorem AdBox.cell {w:World}{b:Nat}{t:TypeId}{six:Bool}{B:Nat→Int}(h:AdBox w b t six B)(j:Nat)(hj:j<16):w.cell? ⟨b,1+j,none⟩=some (.int .u8 (B j)):=
 ad_cell (fun j=>cell_of_row _ _ j _ _ (0,0) h.heap) j hj
theorem AdBox.free {w:World}{b:Nat}{t:TypeId}{six:Bool}{B:Nat→Int}(h:AdBox w b t six B)(j:Nat):w.frozen? ⟨b,j,none⟩=false:=frozen_of_row _ _ _ _ _ h.heap
theorem AdBox.row {w:World}{b:Nat}{t:TypeId}{six:Bool}{B:Nat→Int}(h:AdBox w b t six B):rowFree w b 17=true:=by rw[rowFree_row _ _ _ _ _ h.heap];rfl
theorem AdBox.keep {w w':World}{b:Nat}{t:TypeId}{six:Bool}{B:Nat→Int}(h:AdBox w b t six B)(e:w'.heap[b]? =w.heap[b]?):AdBox w' b t six B:=⟨e.trans h.heap⟩
theorem AdBox.below {w w':World}{b:Nat}{t:TypeId}{six:Bool}{B:Nat→Int}(h:AdBox w b t six B)(hb:Below w.heap.size w w'):AdBox w' b t six B:=h.keep (hb.block _ h.lt)
theorem AdBox.other {w:World}{b:Nat}{t:TypeId}{six:Bool}{B:Nat→Int}(h:AdBox w b t six B)(a:Addr)(v:Value)(hne:b≠a.block):AdBox (w.setCell a v) b t six B:=h.keep (heap_setCell_other _ _ _ _ hne)
theorem AdBox.made (w:World)(t:TypeId)(six:Bool)(B:Nat→Int):AdBox (w.alloc (.cells #[.bool six,.int .u8 (B 0),.int .u8 (B 1),.int .u8 (B 2),.int .u8 (B 3),.int .u8 (B 4),.int .u8 (B 5),.int .u8 (B 6),.int .u8 (B 7),.int .u8 (B 8),.int .u8 (B 9),.int .u8 (B 10),.int .u8 (B 11),.int .u8 (B 12),.int .u8 (B 13),.int .u8 (B 14),.int .u8 (B 15)] t)) w.heap.size t six B:=⟨heap_alloc_new w _⟩
theorem AdBox.made0 (w:World)(t:TypeId)(six:Bool):AdBox (w.alloc (.cells #[.bool six,.int .u8 0,.int .u8 0,.int .u8 0,.int .u8 0,.int .u8 0,.int .u8 0,.int .u8 0,.int .u8 0,.int .u8 0,.int .u8 0,.int .u8 0,.int .u8 0,.int .u8 0,.int .u8 0,.int .u8 0,.int .u8 0] t)) w.heap.size t six (fun _=>0):=AdBox.made w t six fun _=>0
theorem AdBox.congr {w:World}{b:Nat}{t:TypeId}{six:Bool}{B C:Nat→Int}(h:AdBox w b t six B)(e:∀i,i<16→B i=C i):AdBox w b t six C:=by
 refine⟨h.heap.trans ?_⟩
 rw[e 0 (by omega),e 1 (by omega),e 2 (by omega),e 3 (by omega),e 4 (by omega),e 5 (by omega),e 6 (by omega),e 7 (by omega),e 8 (by omega),e 9 (by omega),e 10 (by omega),e 11 (by omega),e 12 (by omega),e 13 (by omega),e 14 (by omega),e 15 (by omega)]
theorem AdBox.set {w:World}{b:Nat}{t:TypeId}{six:Bool}{B:Nat→Int}(h:AdBox w b t six B)(j:Nat)(hj:j<16)(v:Int):AdBox (w.setCell ⟨b,1+j,none⟩ (.int .u8 v)) b t six (fun i=>if i=j then v else B i):=by
 refine⟨(heap_setCell_same _ _ _ _ _ _ h.heap).trans ?_⟩
 rcases j with _|_|_|_|_|_|_|_|_|_|_|_|_|_|_|_|j
 all_goals first|rfl|omega
theorem AdBox.alloc {w:World}{b:Nat}{t:TypeId}{six:Bool}{B:Nat→Int}(h:AdBox w b t six B)(o:Obj):AdBox (w.alloc o) b t six B:=h.below (Below.all (Below.refl _ _) _)
theorem ad_congr {six:Bool}{B C:Nat→Int}(e:∀i,i<16→B i=C i):adV six B=adV six C:=by
 unfold adV
 rw[e 0 (by omega),e 1 (by omega),e 2 (by omega),e 3 (by omega),e 4 (by omega),e 5 (by omega),e 6 (by omega),e 7 (by omega),e 8 (by omega),e 9 (by omega),e 10 (by omega),e 11 (by omega),e 12 (by omega),e 13 (by omega),e 14 (by omega),e 15 (by omega)]
section
variable {fn:Func} {p q:Tmp}
theorem results_ad2 (t:TypeId)(fs:Array Field)(hu:Tryz.prog.underlying t=some (.struct fs))(hi:(Tryz.prog.info? t).map (·.size)=some 17)
 (h:fn.results=#[.cell p t,.tmp q])(tmps:Array Value)(w:World)(b:Nat)(v:Value){six:Bool}{B:Nat→Int}
 (hp:tmps.getD p undef=.pointer (some ⟨b,0,none⟩))(hq:tmps.getD q undef=v)(hc:partOf w b 0 17=#[.bool six,.int .u8 (B 0),.int .u8 (B 1),.int .u8 (B 2),.int .u8 (B 3),.int .u8 (B 4),.int .u8 (B 5),.int .u8 (B 6),.int .u8 (B 7),.int .u8 (B 8),.int .u8 (B 9),.int .u8 (B 10),.int .u8 (B 11),.int .u8 (B 12),.int .u8 (B 13),.int .u8 (B 14),.int .u8 (B 15)]):(results fn tmps).run Tryz.prog w=.ok (.tuple #[adV six B,v]) w:=
 results_part2 h tmps w b 17 _ v hu rfl hi hp hq _ hc rfl
end
end
section
open Go.RowKit
theorem partOf_set2 {w:World}{b n:Nat}{cs cs':Array Value}{t:TypeId}{fr:Nat×Nat}(h:w.heap[b]? =some (.cells cs t fr))(hs:cs'.size=n:=by rfl):partOf (w.setRow b cs') b 0 n=cs':=by
 rw[partOf_row _ _ _ _ _ _ _ (setRow_heap _ _ _ _ _ _ h)];subst hs;simp
theorem run_equalIn_ad (w:World)(d:Nat)(s t:Bool)(x0 x1 x2 x3 x4 x5 x6 x7 x8 x9 x10 x11 x12 x13 x14 x15 y0 y1 y2 y3 y4 y5 y6 y7 y8 y9 y10 y11 y12 y13 y14 y15:Int):
 (Op.equalIn (d+3) 27 (.agg #[.bool s,.int .u8 x0,.int .u8 x1,.int .u8 x2,.int .u8 x3,.int .u8 x4,.int .u8 x5,.int .u8 x6,.int .u8 x7,.int .u8 x8,.int .u8 x9,.int .u8 x10,.int .u8 x11,.int .u8 x12,.int .u8 x13,.int .u8 x14,.int .u8 x15]) (.agg #[.bool t,.int .u8 y0,.int .u8 y1,.int .u8 y2,.int .u8 y3,.int .u8 y4,.int .u8 y5,.int .u8 y6,.int .u8 y7,.int .u8 y8,.int .u8 y9,.int .u8 y10,.int .u8 y11,.int .u8 y12,.int .u8 y13,.int .u8 y14,.int .u8 y15])).run Tryz.prog w=.ok (s==t&&eqL [x0,x1,x2,x3,x4,x5,x6,x7,x8,x9,x10,x11,x12,x13,x14,x15] [y0,y1,y2,y3,y4,y5,y6,y7,y8,y9,y10,y11,y12,y13,y14,y15]) w:=by
 simp[go_sem]
 generalize eqL _ _=e
 by_cases h:s=t
 ·subst h;cases e<;>simp
 ·simp[h]
attribute [go_sem 5000] run_equalIn_ad
theorem rright_any (six:Bool)(B:Nat→Int)(w:World):Calls Tryz.prog 69 #[adV six B] w (RetAt w (.bool (rightB six B))):=by
 have HX:AdBox (w.alloc (.cells #[.bool six,.int .u8 (B 0),.int .u8 (B 1),.int .u8 (B 2),.int .u8 (B 3),.int .u8 (B 4),.int .u8 (B 5),.int .u8 (B 6),.int .u8 (B 7),.int .u8 (B 8),.int .u8 (B 9),.int .u8 (B 10),.int .u8 (B 11),.int .u8 (B 12),.int .u8 (B 13),.int .u8 (B 14),.int .u8 (B 15)] 36)) w.heap.size 36 six B:=AdBox.made w _ six B
 have HB:=Lib.hid (Below.all (Below.refl w.heap.size w) (.cells #[.bool six,.int .u8 (B 0),.int .u8 (B 1),.int .u8 (B 2),.int .u8 (B 3),.int .u8 (B 4),.int .u8 (B 5),.int .u8 (B 6),.int .u8 (B 7),.int .u8 (B 8),.int .u8 (B 9),.int .u8 (B 10),.int .u8 (B 11),.int .u8 (B 12),.int .u8 (B 13),.int .u8 (B 14),.int .u8 (B 15)] 36))
 unfold adV
 go_enter Tryz.func69,Tryz.ntmps69
 go_wp2_with fail
 generalize w.alloc (.cells #[.bool six,.int .u8 (B 0),.int .u8 (B 1),.int .u8 (B 2),.int .u8 (B 3),.int .u8 (B 4),.int .u8 (B 5),.int .u8 (B 6),.int .u8 (B 7),.int .u8 (B 8),.int .u8 (B 9),.int .u8 (B 10),.int .u8 (B 11),.int .u8 (B 12),.int .u8 (B 13),.int .u8 (B 14),.int .u8 (B 15)] 36)=w1 at*
 have HS:=Lib.hid HX.six
 have HX:=Lib.hid HX
 go_loopw [3] (fun u3 wr=>∃k:Nat,4≤k∧k≤16∧u3=.int .i64 k∧wr=w1∧Hid (six=true∨∀i,4≤i→i<k→B i=0)) (fun u3 _=>(16:Int)-intOf u3 |>.toNat)
 case atStart=>exact⟨4,by omega,by omega,rfl,rfl,Lib.hid (.inr fun i h1 h2=>by omega)⟩
 case round=>
  obtain⟨k,hk4,hk,rfl,rfl,HI⟩:=hrel
  by_cases hlt:k<16
  ·have hcx:=HX.out.cell k hlt
   have hs:=HX.out.six
   cases six
   ·by_cases hz:B k=0
    ·rw[hz] at hcx
     go_wp2_with fail
     go_roundw
     case rel=>exact⟨k+1,by omega,by omega,by go_num,trivial,Lib.hid (.inr fun i h1 h2=>by
      by_cases e:i=k
      ·rw[e];exact hz
      ·exact(HI.out.resolve_left (by simp)) i h1 (by omega))⟩
     case measure=>simp[intOf];omega
    ·have HN:Hid (rightB false B=false):=Lib.hid (by rw[Bool.eq_false_iff];intro h;exact hz (rightB_four.1 h k hk4 hlt))
     go_wp2_with fail
     go_ret
     exact .mk (val_bool HN.out.symm) HB.out
   ·go_wp2_with fail
    go_roundw
    case rel=>exact⟨k+1,by omega,by omega,by go_num,trivial,Lib.hid (.inl (by simp))⟩
    case measure=>simp[intOf];omega
  ·obtain rfl:k=16:=by omega
   go_wp2_with fail
   go_ret
   refine .mk (val_bool ?_) HB.out
   rcases HI.out with h|h
   ·subst h;rfl
   ·cases six
    ·exact(rightB_four.2 h).symm
    ·rfl
theorem results_ad1 {fn:Func}{p:Tmp}(t:TypeId)(fs:Array Field)(hu:Tryz.prog.underlying t=some (.struct fs))(hi:(Tryz.prog.info? t).map (·.size)=some 17)
 (h:fn.results=#[.cell p t])(tmps:Array Value)(w:World)(b:Nat){six:Bool}{B:Nat→Int}
 (hp:tmps.getD p undef=.pointer (some ⟨b,0,none⟩))(hc:partOf w b 0 17=#[.bool six,.int .u8 (B 0),.int .u8 (B 1),.int .u8 (B 2),.int .u8 (B 3),.int .u8 (B 4),.int .u8 (B 5),.int .u8 (B 6),.int .u8 (B 7),.int .u8 (B 8),.int .u8 (B 9),.int .u8 (B 10),.int .u8 (B 11),.int .u8 (B 12),.int .u8 (B 13),.int .u8 (B 14),.int .u8 (B 15)]):(results fn tmps).run Tryz.prog w=.ok (adV six B) w:=
 results_part1 h tmps w b 17 _ hu rfl hi hp _ hc rfl
theorem info_rad5:(Tryz.prog.info? 36).map (·.size)=some 17:=by kernel_rfl
theorem docsaddr_any (s:Bool)(B:Nat→Int)(w:World):Calls Tryz.prog 56 #[adV s B] w (RetAt w (adV s B)):=by
 have HZ:AdBox ((w.alloc (.cells #[.bool s,.int .u8 (B 0),.int .u8 (B 1),.int .u8 (B 2),.int .u8 (B 3),.int .u8 (B 4),.int .u8 (B 5),.int .u8 (B 6),.int .u8 (B 7),.int .u8 (B 8),.int .u8 (B 9),.int .u8 (B 10),.int .u8 (B 11),.int .u8 (B 12),.int .u8 (B 13),.int .u8 (B 14),.int .u8 (B 15)] 27)).alloc (.cells #[.bool s,.int .u8 (B 0),.int .u8 (B 1),.int .u8 (B 2),.int .u8 (B 3),.int .u8 (B 4),.int .u8 (B 5),.int .u8 (B 6),.int .u8 (B 7),.int .u8 (B 8),.int .u8 (B 9),.int .u8 (B 10),.int .u8 (B 11),.int .u8 (B 12),.int .u8 (B 13),.int .u8 (B 14),.int .u8 (B 15)] 36)) (w.heap.size+1) 36 s B:=⟨heap_alloc2_new w (.cells #[.bool s,.int .u8 (B 0),.int .u8 (B 1),.int .u8 (B 2),.int .u8 (B 3),.int .u8 (B 4),.int .u8 (B 5),.int .u8 (B 6),.int .u8 (B 7),.int .u8 (B 8),.int .u8 (B 9),.int .u8 (B 10),.int .u8 (B 11),.int .u8 (B 12),.int .u8 (B 13),.int .u8 (B 14),.int .u8 (B 15)] 27) (.cells #[.bool s,.int .u8 (B 0),.int .u8 (B 1),.int .u8 (B 2),.int .u8 (B 3),.int .u8 (B 4),.int .u8 (B 5),.int .u8 (B 6),.int .u8 (B 7),.int .u8 (B 8),.int .u8 (B 9),.int .u8 (B 10),.int .u8 (B 11),.int .u8 (B 12),.int .u8 (B 13),.int .u8 (B 14),.int .u8 (B 15)] 36)⟩
 have HZ:=Lib.hid HZ
 unfold adV
 go_enter Tryz.func56,Tryz.ntmps56
 go_wp2_with fail
 exact bodyPost_ret (v:=adV s B) (results_ad1 _ _ Tryz.underlying36 info_rad5 rfl _ _ (w.heap.size+1) rfl HZ.out.part) rfl (.mk rfl (Below.all (Below.all (Below.refl _ _) _) _))
end
end Go.Proofs.YtkgjbipfhhjlpaaGreatDoor
