import Derived.Test.YtkgjbipfhhjlpaaGreatDoorMf1
import Derived.Laws.CopyOwn
import Derived.Shelf.Strings.OnBuilder
import Derived.Shelf.Utf8.RuneCount
import Derived.Shelf.Strconv.Itoa3
import Derived.Shelf.Strconv.ErrVarAll
import Derived.Shelf.Strconv.ParseUint10At
import Derived.Shelf.Pu.ErrVarParseUint
import Derived.Shelf.Strings.Shaped
import Derived.Shelf.GgClosure.StringsRunes
import Derived.Shelf.Strings.SplitShaped
import Derived.Shelf.Strings.Explode
import Derived.Shelf.Strings.FuncGrows
import Derived.Shelf.Strings.BuilderCap
import Derived.Shelf.Bytes.SlClone
import Derived.Shelf.Bytes.SlEqualAll
import Derived.Test.YtkgjbipfhhjlpaaGreatDoorProg
set_option linter.unusedVariables false
set_option linter.unusedSimpArgs false
set_option maxRecDepth 100000
set_option maxHeartbeats 32000000
namespace Go.Proofs.YtkgjbipfhhjlpaaGreatDoor
section
open Go.RowKit
def adV (six:Bool)(B:Nat→Int):Value:=.agg (JnH six B)
def U8 (B:Nat→Int):Prop:=∀i,0≤B i∧B i<256
def JcI (six:Bool):Int:=if six then 16 else 4
theorem JaP (six:Bool)(B:Nat→Int)(w:World):Calls Tryz.prog 123 #[adV six B] w (Jk w (.int .i64 (JcI six))):=by
 unfold adV
 cases six
 all_goals
  go_enter Tryz.func123,Tryz.ntmps123
  go_wp2_with fail
  go_ret
  exact .mk rfl (Below.all (Jny _ _) _)
def eqL:List Int→List Int→Bool
 |[],[]=>true
 |x::l,y::m=>if x==y then eqL l m else false
 |_,_=>false
theorem JeD:∀(l m:List Int),eqL l m=true↔l=m
 |[],[]=>by simp[eqL]
 |x::l,y::m=>by
  rw[eqL]
  by_cases h:x=y
  ·subst h;simp[JeD l m]
  ·simp[h]
 |[],y::m=>by simp[eqL]
 |x::l,[]=>by simp[eqL]
def b16 (B:Nat→Int):List Int:=[B 0,B 1,B 2,B 3,B 4,B 5,B 6,B 7,B 8,B 9,B 10,B 11,B 12,B 13,B 14,B 15]
theorem JiY (B:Nat→Int)(i:Nat)(h:i<16):(b16 B)[i]? =some (B i):=by
 unfold b16
 rcases i with _|_|_|_|_|_|_|_|_|_|_|_|_|_|_|_|i
 all_goals first|rfl|omega
theorem Jl7 {B C:Nat→Int}:b16 B=b16 C↔∀i,i<16→B i=C i:=by
 constructor
 ·intro h i hi
  have:=JiY B i hi
  rw[h,JiY C i hi] at this
  exact(Option.some.inj this).symm
 ·intro h
  unfold b16
  simp[h]
theorem JdN (w:World)(d:Nat)(x0 x1 x2 x3 x4 x5 x6 x7 x8 x9 x10 x11 x12 x13 x14 x15 y0 y1 y2 y3 y4 y5 y6 y7 y8 y9 y10 y11 y12 y13 y14 y15:Int):
 (Op.equalIn (d+2) 25 (.agg (Jn8 x0 x1 x2 x3 x4 x5 x6 x7 x8 x9 x10 x11 x12 x13 x14 x15)) (.agg (Jn8 y0 y1 y2 y3 y4 y5 y6 y7 y8 y9 y10 y11 y12 y13 y14 y15))).run Tryz.prog w=.ok (eqL [x0,x1,x2,x3,x4,x5,x6,x7,x8,x9,x10,x11,x12,x13,x14,x15] [y0,y1,y2,y3,y4,y5,y6,y7,y8,y9,y10,y11,y12,y13,y14,y15]) w:=by
 have hr:List.range' 0 16=[0,1,2,3,4,5,6,7,8,9,10,11,12,13,14,15]:=by decide
 rw[Op.equalIn]
 simp only[Sem.run_bind,run_underlying Tryz.underlying25,Result.andThen_ok]
 simp[go_sem,Std.Legacy.Range.forIn_eq_forIn_range',Std.Legacy.Range.size,hr]
 simp only[eqL,beq_iff_eq]
 have hi:∀(c:Prop) [Decidable c] (a b:Bool),(Result.ok (if c then a else b) w:Result Bool)=if c then Result.ok a w else Result.ok b w:=fun c _ a b=>by split<;>rfl
 simp only[hi]
attribute [go_sem] JdN
def JR (six:Bool)(B:Nat→Int):Bool:=six||(List.range 12).all fun i=>B (4+i)==0
theorem Jbg {B:Nat→Int}:JR false B=true↔∀i,4≤i→i<16→B i=0:=by
 unfold JR
 simp only[Bool.false_or,List.all_eq_true,List.mem_range,beq_iff_eq]
 constructor
 ·intro h i h4 h16
  have:=h (i-4) (by omega)
  rwa [show 4+(i-4)=i by omega] at this
 ·intro h i hi;exact h _ (by omega) (by omega)
theorem JiZ (B:Nat→Int):eqL (b16 B) (b16 fun i=>if i<4 then B i else 0)=JR false B:=by
 rw[Bool.eq_iff_iff,JeD,Jl7,Jbg]
 constructor
 ·intro h i h4 h16;have:=h i h16;rw[if_neg (by omega)] at this;exact this
 ·intro h i hi
  split
  ·rfl
  ·exact h i (by omega) hi
def Jbx (n:Nat)(B:Nat→Int):List Value:=(List.range n).map fun i=>.int .u8 (B i)
theorem JaQ (n:Nat)(B:Nat→Int)(j:Nat)(u:Value)(h:(Jbx n B)[j]? =some u):j<n∧u=.int .u8 (B j):=by
 unfold Jbx at h
 rw[List.getElem?_map] at h
 by_cases hj:j<n
 ·rw[List.getElem?_range hj] at h
  exact⟨hj,by simpa using h.symm⟩
 ·rw[List.getElem?_eq_none (by simpa using hj)] at h;cases h
theorem Xp (n:Nat)(B:Nat→Int):(Jbx n B).length=n:=by simp[Jbx]
theorem JaR (n:Nat)(B:Nat→Int):∀u∈Jbx n B,u.oneCell'=true:=by
 intro u hu
 obtain⟨i,-,rfl⟩:=List.mem_map.1 hu
 rfl
theorem JgU {w:World}{b:Nat}{s:Bool}{B:Nat→Int}(h:∀j,w.cell? ⟨b,j,none⟩=((JnH s B):Array Value)[j]?)(j:Nat)(hj:j<16):w.cell? ⟨b,1+j,none⟩=some (.int .u8 (B j)):=by
 rw[h]
 rcases j with _|_|_|_|_|_|_|_|_|_|_|_|_|_|_|_|j
 all_goals first|rfl|omega
theorem Jh9 (B:Nat→Int)(w:World):Calls Tryz.prog 68 #[adV false B] w (Jk w (.bool (JR false B))):=by
 have hsz:∀w,Calls Tryz.prog 123 #[adV false B] w (Jk w (.int .i64 4)):=JaP false B
 unfold adV at hsz⊢
 go_enter Tryz.func68,Tryz.ntmps68
 go_wp2_with fail
 refine Zz 5 (by kernel_rfl) (by kernel_rfl) ?_
 simp only[List.take_succ_cons,List.take_zero,List.drop_succ_cons,List.drop_zero]
 repeat go_big_quiet_step ((go_at_call 123;exact JJ (hsz _)))
 refine wpQuiet_nil ?_
 intro x
 have hA0:=(x.below.block _ (by simp;omega)).trans (heap_alloc2_old w (.cells (JnH false B) 27) (.cells Jon 25))
 have hP0:=(x.below.block _ (by simp)).trans (heap_alloc2_new w (.cells (JnH false B) 27) (.cells (List.replicate 16 (Value.int .u8 0)).toArray 25))
 have hxb:Below w.heap.size w x.world:=Jnn (Below.all (Below.all (Jny _ _) _) _)
 have hxs:w.heap.size+1<x.world.heap.size:=by have:=x.below.size;simp at this;omega
 refine wpList_copy_splice rfl (.tmp 6) (.tmp 8) 22 22 rfl 5 Tryz.underlying22 (by kernel_rfl) (some ⟨w.heap.size+1,0,none⟩) (some ⟨w.heap.size,1,none⟩) 4 16 16 16 rfl rfl (w.heap.size+1) 0
  (List.replicate 16 (.int .u8 0)) 25 hP0 (Jbx 4 B) (Xp _ _) (fun _=>⟨rfl,_,rfl,fun j v hv=>?_⟩) (by rw[Xp];decide) (JaR _ _) (w.heap.size+1) x.world (Jny _ _) (JnA _) ?_
 ·obtain⟨hj,rfl⟩:=JaQ _ _ _ _ hv
  rw[Addr.add_lit]
  exact JgU (fun j=>cell_of_row _ _ j _ _ (0,0) hA0) j (by omega)
 intro w' hg hb
 have hA1:=(hb.block _ (by simp)).trans hA0
 have hP1:w'.heap[w.heap.size+1]? =some (.cells (Joo B) 25 (0,0)):=hg.out
 have hA:Jc w' w.heap.size 1 16=(Jn9 B:Array Value):=by rw[Jn _ _ _ _ _ _ _ hA1];simp
 have hP:Jc w' (w.heap.size+1) 0 16=(Joo B:Array Value):=by rw[Jn _ _ _ _ _ _ _ hP1];simp
 have hB:Hid (Below w.heap.size w w'):=Jnv (hxb.trans (hb.mono (by omega)))
 clear hA0 hP0 hg hxb hxs hsz hb hA1 hP1
 go_wp2_with fail
 go_ret
 exact .mk (JL (JiZ B)) hB.out
theorem Ji0 (B:Nat→Int)(w:World):Calls Tryz.prog 68 #[adV true B] w (Jk w (.bool (JR true B))):=by
 have hsz:∀w,Calls Tryz.prog 123 #[adV true B] w (Jk w (.int .i64 16)):=JaP true B
 unfold adV at hsz⊢
 go_enter Tryz.func68,Tryz.ntmps68
 go_wp2_with fail
 refine Zz 5 (by kernel_rfl) (by kernel_rfl) ?_
 simp only[List.take_succ_cons,List.take_zero,List.drop_succ_cons,List.drop_zero]
 repeat go_big_quiet_step ((go_at_call 123;exact JJ (hsz _)))
 refine wpQuiet_nil ?_
 intro x
 have hA0:=(x.below.block _ (by simp;omega)).trans (heap_alloc2_old w (.cells (JnH true B) 27) (.cells Jon 25))
 have hP0:=(x.below.block _ (by simp)).trans (heap_alloc2_new w (.cells (JnH true B) 27) (.cells (List.replicate 16 (Value.int .u8 0)).toArray 25))
 have hxb:Below w.heap.size w x.world:=Jnn (Below.all (Below.all (Jny _ _) _) _)
 have hxs:w.heap.size+1<x.world.heap.size:=by have:=x.below.size;simp at this;omega
 refine wpList_copy_splice rfl (.tmp 6) (.tmp 8) 22 22 rfl 5 Tryz.underlying22 (by kernel_rfl) (some ⟨w.heap.size+1,0,none⟩) (some ⟨w.heap.size,1,none⟩) 16 16 16 16 rfl rfl (w.heap.size+1) 0
  (List.replicate 16 (.int .u8 0)) 25 hP0 (Jbx 16 B) (Xp _ _) (fun _=>⟨rfl,_,rfl,fun j v hv=>?_⟩) (by rw[Xp];decide) (JaR _ _) (w.heap.size+1) x.world (Jny _ _) (JnA _) ?_
 ·obtain⟨hj,rfl⟩:=JaQ _ _ _ _ hv
  rw[Addr.add_lit]
  exact JgU (fun j=>cell_of_row _ _ j _ _ (0,0) hA0) j (by omega)
 intro w' hg hb
 have hA1:=(hb.block _ (by simp)).trans hA0
 have hP1:w'.heap[w.heap.size+1]? =some (.cells (Jn9 B) 25 (0,0)):=hg.out
 have hA:Jc w' w.heap.size 1 16=(Jn9 B:Array Value):=by rw[Jn _ _ _ _ _ _ _ hA1];simp
 have hP:Jc w' (w.heap.size+1) 0 16=(Jn9 B:Array Value):=by rw[Jn _ _ _ _ _ _ _ hP1];simp
 have hB:Hid (Below w.heap.size w w'):=Jnv (hxb.trans (hb.mono (by omega)))
 clear hA0 hP0 hg hxb hxs hsz hb hA1 hP1
 go_wp2_with fail
 go_ret
 exact .mk (JL ((JeD _ _).2 rfl)) hB.out
theorem Qt (six:Bool)(B:Nat→Int)(w:World):Calls Tryz.prog 68 #[adV six B] w (Jk w (.bool (JR six B))):=by
 cases six
 ·exact Jh9 B w
 ·exact Ji0 B w
end
section
open Go.RowKit
structure JZ (w:World)(b:Nat)(t:TypeId)(six:Bool)(B:Nat→Int):Prop where
 heap:w.heap[b]? =some (.cells (JnH six B) t (0,0))
theorem JZ.lt {w:World}{b:Nat}{t:TypeId}{six:Bool}{B:Nat→Int}(h:JZ w b t six B):b<w.heap.size:=(Jnw h.heap).1
theorem JZ.part {w:World}{b:Nat}{t:TypeId}{six:Bool}{B:Nat→Int}(h:JZ w b t six B):Jc w b 0 17=(JnH six B:Array Value):=by rw[Jn _ _ _ _ _ _ _ h.heap];simp
theorem JZ.six {w:World}{b:Nat}{t:TypeId}{six:Bool}{B:Nat→Int}(h:JZ w b t six B):w.cell? ⟨b,0,none⟩=some (.bool six):=by rw[cell_of_row _ _ _ _ _ _ h.heap];rfl
theorem JZ.cell {w:World}{b:Nat}{t:TypeId}{six:Bool}{B:Nat→Int}(h:JZ w b t six B)(j:Nat)(hj:j<16):w.cell? ⟨b,1+j,none⟩=some (.int .u8 (B j)):=
 JgU (fun j=>cell_of_row _ _ j _ _ (0,0) h.heap) j hj
theorem JZ.free {w:World}{b:Nat}{t:TypeId}{six:Bool}{B:Nat→Int}(h:JZ w b t six B)(j:Nat):w.frozen? ⟨b,j,none⟩=false:=frozen_of_row _ _ _ _ _ h.heap
theorem JZ.row {w:World}{b:Nat}{t:TypeId}{six:Bool}{B:Nat→Int}(h:JZ w b t six B):Jl w b 17=true:=by rw[Jd _ _ _ _ _ h.heap];rfl
theorem JZ.keep {w w':World}{b:Nat}{t:TypeId}{six:Bool}{B:Nat→Int}(h:JZ w b t six B)(e:w'.heap[b]? =w.heap[b]?):JZ w' b t six B:=⟨e.trans h.heap⟩
theorem JZ.below {w w':World}{b:Nat}{t:TypeId}{six:Bool}{B:Nat→Int}(h:JZ w b t six B)(hb:Below w.heap.size w w'):JZ w' b t six B:=h.keep (hb.block _ h.lt)
theorem JZ.other {w:World}{b:Nat}{t:TypeId}{six:Bool}{B:Nat→Int}(h:JZ w b t six B)(a:Addr)(v:Value)(hne:b≠a.block):JZ (w.setCell a v) b t six B:=h.keep (heap_setCell_other _ _ _ _ hne)
theorem JZ.made (w:World)(t:TypeId)(six:Bool)(B:Nat→Int):JZ (w.alloc (.cells (JnH six B) t)) w.heap.size t six B:=⟨heap_alloc_new w _⟩
theorem JZ.made0 (w:World)(t:TypeId)(six:Bool):JZ (w.alloc (.cells (Joa six) t)) w.heap.size t six (fun _=>0):=JZ.made w t six fun _=>0
theorem JZ.congr {w:World}{b:Nat}{t:TypeId}{six:Bool}{B C:Nat→Int}(h:JZ w b t six B)(e:∀i,i<16→B i=C i):JZ w b t six C:=by
 refine⟨h.heap.trans ?_⟩
 rw[e 0 (by omega),e 1 (by omega),e 2 (by omega),e 3 (by omega),e 4 (by omega),e 5 (by omega),e 6 (by omega),e 7 (by omega),e 8 (by omega),e 9 (by omega),e 10 (by omega),e 11 (by omega),e 12 (by omega),e 13 (by omega),e 14 (by omega),e 15 (by omega)]
theorem JZ.set {w:World}{b:Nat}{t:TypeId}{six:Bool}{B:Nat→Int}(h:JZ w b t six B)(j:Nat)(hj:j<16)(v:Int):JZ (w.setCell ⟨b,1+j,none⟩ (.int .u8 v)) b t six (fun i=>if i=j then v else B i):=by
 refine⟨(heap_setCell_same _ _ _ _ _ _ h.heap).trans ?_⟩
 rcases j with _|_|_|_|_|_|_|_|_|_|_|_|_|_|_|_|j
 all_goals first|rfl|omega
theorem JZ.alloc {w:World}{b:Nat}{t:TypeId}{six:Bool}{B:Nat→Int}(h:JZ w b t six B)(o:Obj):JZ (w.alloc o) b t six B:=h.below (Below.all (Jny _ _) _)
theorem Jkm {six:Bool}{B C:Nat→Int}(e:∀i,i<16→B i=C i):adV six B=adV six C:=by
 unfold adV
 rw[e 0 (by omega),e 1 (by omega),e 2 (by omega),e 3 (by omega),e 4 (by omega),e 5 (by omega),e 6 (by omega),e 7 (by omega),e 8 (by omega),e 9 (by omega),e 10 (by omega),e 11 (by omega),e 12 (by omega),e 13 (by omega),e 14 (by omega),e 15 (by omega)]
section
variable {fn:Func} {p q:Tmp}
theorem J4 (t:TypeId)(fs:Array Field)(hu:Tryz.prog.underlying t=some (.struct fs))(hi:(Tryz.prog.info? t).map (·.size)=some 17)
 (h:fn.results=#[.cell p t,.tmp q])(tmps:Array Value)(w:World)(b:Nat)(v:Value){six:Bool}{B:Nat→Int}
 (hp:tmps.getD p undef=.pointer (some ⟨b,0,none⟩))(hq:tmps.getD q undef=v)(hc:Jc w b 0 17=(JnH six B:Array Value)):(results fn tmps).run Tryz.prog w=.ok (.tuple #[adV six B,v]) w:=
 QF h tmps w b 17 _ v hu rfl hi hp hq _ hc rfl
end
end
section
open Go.RowKit
theorem ZT {w:World}{b n:Nat}{cs cs':Array Value}{t:TypeId}{fr:Nat×Nat}(h:w.heap[b]? =some (.cells cs t fr))(hs:cs'.size=n:=by rfl):Jc (w.setRow b cs') b 0 n=cs':=by
 rw[Jn _ _ _ _ _ _ _ (setRow_heap _ _ _ _ _ _ h)];subst hs;simp
theorem JdO (w:World)(d:Nat)(s t:Bool)(x0 x1 x2 x3 x4 x5 x6 x7 x8 x9 x10 x11 x12 x13 x14 x15 y0 y1 y2 y3 y4 y5 y6 y7 y8 y9 y10 y11 y12 y13 y14 y15:Int):
 (Op.equalIn (d+3) 27 (.agg (JnI s x0 x1 x2 x3 x4 x5 x6 x7 x8 x9 x10 x11 x12 x13 x14 x15)) (.agg (JnI t y0 y1 y2 y3 y4 y5 y6 y7 y8 y9 y10 y11 y12 y13 y14 y15))).run Tryz.prog w=.ok (s==t&&eqL [x0,x1,x2,x3,x4,x5,x6,x7,x8,x9,x10,x11,x12,x13,x14,x15] [y0,y1,y2,y3,y4,y5,y6,y7,y8,y9,y10,y11,y12,y13,y14,y15]) w:=by
 simp[go_sem]
 generalize eqL _ _=e
 by_cases h:s=t
 ·subst h;cases e<;>simp
 ·simp[h]
attribute [go_sem 5000] JdO
end
end Go.Proofs.YtkgjbipfhhjlpaaGreatDoor
namespace Go.Proofs
open Go.Shelf
def Tryz.lays156_ren:Go.Shelf.Ren:=⟨fun|156=>70|165=>126|166=>127|169=>128|240=>177|241=>178|276=>211|277=>212|n=>n,fun|31=>76|9=>9|3=>3|4=>4|0=>0|20=>20|72=>209|76=>211|70=>207|37=>22|75=>126|127=>279|164=>301|5=>5|80=>68|n=>n,fun|n=>n⟩
theorem Tryz.lays156:Go.Proofs.Lays.n156 Tryz.prog Tryz.lays156_ren:={
 mixed:=by kernel_rfl
 f156:=Tryz.func70.trans (congrArg some (by kernel_rfl))
 f165:=Tryz.func126.trans (congrArg some (by kernel_rfl))
 f166:=Tryz.func127.trans (congrArg some (by kernel_rfl))
 f169:=Tryz.func128.trans (congrArg some (by kernel_rfl))
 f240:=Tryz.func177.trans (congrArg some (by kernel_rfl))
 f241:=Tryz.func178.trans (congrArg some (by kernel_rfl))
 f276:=Tryz.func211.trans (congrArg some (by kernel_rfl))
 f277:=Tryz.func212.trans (congrArg some (by kernel_rfl))
 t0:=Tryz.underlying0
 a0:=Tryz.isAgg0
 z0:=Tryz.sizeOf0
 v0:=Tryz.zeroValue0
 t3:=Tryz.underlying3
 a3:=Tryz.isAgg3
 z3:=Tryz.sizeOf3
 v3:=Tryz.zeroValue3
 t4:=Tryz.underlying4
 a4:=Tryz.isAgg4
 z4:=Tryz.sizeOf4
 v4:=Tryz.zeroValue4
 t9:=Tryz.underlying9
 a9:=Tryz.isAgg9
 z9:=Tryz.sizeOf9
 v9:=Tryz.zeroValue9
 t20:=Tryz.underlying20
 a20:=Tryz.isAgg20
 z20:=Tryz.sizeOf20
 v20:=Tryz.zeroValue20
 t31:=Tryz.underlying76
 a31:=Tryz.isAgg76
 z31:=Tryz.sizeOf76
 v31:=Tryz.zeroValue76
 t37:=Tryz.underlying22
 a37:=Tryz.isAgg22
 z37:=Tryz.sizeOf22
 v37:=Tryz.zeroValue22
 t70:=Tryz.underlying207
 a70:=Tryz.isAgg207
 z70:=Tryz.sizeOf207
 v70:=Tryz.zeroValue207
 t72:=Tryz.underlying209
 a72:=Tryz.isAgg209
 z72:=Tryz.sizeOf209
 v72:=Tryz.zeroValue209
 t75:=Tryz.underlying126
 a75:=Tryz.isAgg126
 z75:=Tryz.sizeOf126
 v75:=Tryz.zeroValue126
 t76:=Tryz.underlying211
 a76:=Tryz.isAgg211
 z76:=Tryz.sizeOf211
 v76:=Tryz.zeroValue211
 t127:=Tryz.underlying279
 a127:=Tryz.isAgg279
 z127:=Tryz.sizeOf279
 v127:=Tryz.zeroValue279
 t164:=Tryz.underlying301
 a164:=Tryz.isAgg301
 z164:=Tryz.sizeOf301
 v164:=Tryz.zeroValue301 }
theorem Tryz.Builder_Extra_156:Builder.Extra Tryz.prog Tryz.lays156_ren:={
 sizeBuilder:=by kernel_rfl
 liesBuilder:=by kernel_rfl
 t5:=Tryz.underlying5
 a5:=Tryz.isAgg5
 z5:=Tryz.sizeOf5
 v5:=Tryz.zeroValue5
 infoByte:=by kernel_rfl
 cellsByte:=by kernel_rfl
 sizeByte:=by kernel_rfl
 neB5:=by decide }
open Go.RowKit in
theorem Tryz.strings_Join_none (a:Option Addr)(c:Nat)(sep:ByteArray)(w:World):
 Calls Tryz.prog 70 #[.slice a 0 c,.string sep] w fun e w'=>e=.returned (.string ⟨#[]⟩)∧w'=w:=Any.strings_Join_none Tryz.lays156 Tryz.Builder_Extra_156 a c sep w
open Go.RowKit in
theorem Tryz.strings_Join (bk o c:Nat)(xs:List ByteArray)(sep:ByteArray)(w:World)(hcells:∀(j:Nat) x,xs[j]? =some x→w.cell? ⟨bk,o+j,none⟩=some (.string x))(hbk:bk<w.heap.size)(hN:xs.length≤140737488355328)(hcap:xs.length≤c)(hlen:(Lib.join (xs.map (·.data.toList)) sep.data.toList).length≤140737488355328):
 Calls Tryz.prog 70 #[.slice (some ⟨bk,o,none⟩) xs.length c,.string sep] w fun e w'=>e=.returned (.string ⟨(Lib.join (xs.map (·.data.toList)) sep.data.toList).toArray⟩)∧Below w.heap.size w w':=Any.strings_Join Tryz.lays156 Tryz.Builder_Extra_156 bk o c xs sep w hcells hbk hN hcap hlen
def Tryz.lays172_ren:Go.Shelf.Ren:=⟨fun|172=>205|244=>226|245=>119|247=>237|279=>168|280=>169|281=>170|282=>171|287=>118|316=>203|171=>71|205=>204|321=>166|322=>167|243=>129|246=>179|283=>213|284=>214|285=>215|286=>216|129=>229|317=>228|318=>230|319=>231|320=>232|337=>238|338=>239|n=>n,fun|9=>9|3=>3|75=>126|76=>211|4=>4|5=>5|167=>264|37=>22|0=>0|85=>325|2=>2|168=>267|53=>124|175=>127|46=>83|210=>296|127=>279|145=>313|143=>311|21=>21|171=>304|173=>306|212=>315|51=>100|20=>20|213=>316|232=>328|233=>329|80=>68|n=>n,fun|15=>1|16=>2|17=>3|18=>6|19=>7|n=>n⟩
def Tryz.laysM246_ren:Go.Shelf.Ren:=⟨fun|246=>179|283=>213|284=>214|285=>215|286=>216|129=>229|317=>228|318=>230|319=>231|320=>232|337=>238|338=>239|n=>n,fun|2=>2|3=>3|9=>9|4=>4|171=>304|0=>0|53=>124|37=>22|5=>5|173=>306|212=>315|51=>100|20=>20|213=>316|46=>83|232=>328|233=>329|n=>n,fun|17=>3|18=>6|19=>7|n=>n⟩
def Tryz.laysM243_ren:Go.Shelf.Ren:=⟨fun|243=>129|246=>179|283=>213|284=>214|285=>215|286=>216|129=>229|317=>228|318=>230|319=>231|320=>232|337=>238|338=>239|n=>n,fun|3=>3|9=>9|2=>2|4=>4|171=>304|0=>0|53=>124|37=>22|5=>5|173=>306|212=>315|51=>100|20=>20|213=>316|46=>83|232=>328|233=>329|n=>n,fun|17=>3|18=>6|19=>7|n=>n⟩
def Tryz.laysM171_ren:Go.Shelf.Ren:=⟨fun|171=>71|243=>129|246=>179|283=>213|284=>214|285=>215|286=>216|129=>229|317=>228|318=>230|319=>231|320=>232|337=>238|338=>239|n=>n,fun|3=>3|9=>9|2=>2|4=>4|171=>304|0=>0|53=>124|37=>22|5=>5|173=>306|212=>315|51=>100|20=>20|213=>316|46=>83|232=>328|233=>329|n=>n,fun|17=>3|18=>6|19=>7|n=>n⟩
theorem Tryz.laysM171:Go.Proofs.LaysM.n171 Tryz.prog Tryz.laysM171_ren:={
 mixed:=by kernel_rfl
 f129:=Tryz.func229.trans (congrArg some (by kernel_rfl))
 f171:=Tryz.func71.trans (congrArg some (by kernel_rfl))
 f243:=Tryz.func129.trans (congrArg some (by kernel_rfl))
 f246:=Tryz.func179.trans (congrArg some (by kernel_rfl))
 f283:=Tryz.func213.trans (congrArg some (by kernel_rfl))
 f284:=Tryz.func214.trans (congrArg some (by kernel_rfl))
 f285:=Tryz.func215.trans (congrArg some (by kernel_rfl))
 f286:=Tryz.func216.trans (congrArg some (by kernel_rfl))
 f317:=Tryz.func228.trans (congrArg some (by kernel_rfl))
 f318:=Tryz.func230.trans (congrArg some (by kernel_rfl))
 f319:=Tryz.func231.trans (congrArg some (by kernel_rfl))
 f320:=Tryz.func232.trans (congrArg some (by kernel_rfl))
 f337:=Tryz.func238.trans (congrArg some (by kernel_rfl))
 f338:=Tryz.func239.trans (congrArg some (by kernel_rfl))
 t0:=Tryz.underlying0
 a0:=Tryz.isAgg0
 z0:=Tryz.sizeOf0
 v0:=Tryz.zeroValue0
 t2:=Tryz.underlying2
 a2:=Tryz.isAgg2
 z2:=Tryz.sizeOf2
 v2:=Tryz.zeroValue2
 t3:=Tryz.underlying3
 a3:=Tryz.isAgg3
 z3:=Tryz.sizeOf3
 v3:=Tryz.zeroValue3
 t4:=Tryz.underlying4
 a4:=Tryz.isAgg4
 z4:=Tryz.sizeOf4
 v4:=Tryz.zeroValue4
 t5:=Tryz.underlying5
 a5:=Tryz.isAgg5
 z5:=Tryz.sizeOf5
 v5:=Tryz.zeroValue5
 t9:=Tryz.underlying9
 a9:=Tryz.isAgg9
 z9:=Tryz.sizeOf9
 v9:=Tryz.zeroValue9
 t20:=Tryz.underlying20
 a20:=Tryz.isAgg20
 z20:=Tryz.sizeOf20
 v20:=Tryz.zeroValue20
 t37:=Tryz.underlying22
 a37:=Tryz.isAgg22
 z37:=Tryz.sizeOf22
 v37:=Tryz.zeroValue22
 t46:=Tryz.underlying83
 a46:=Tryz.isAgg83
 z46:=Tryz.sizeOf83
 v46:=Tryz.zeroValue83
 t51:=Tryz.underlying100
 a51:=Tryz.isAgg100
 z51:=Tryz.sizeOf100
 v51:=Tryz.zeroValue100
 t53:=Tryz.underlying124
 a53:=Tryz.isAgg124
 z53:=Tryz.sizeOf124
 v53:=Tryz.zeroValue124
 t171:=Tryz.underlying304
 a171:=Tryz.isAgg304
 z171:=Tryz.sizeOf304
 v171:=Tryz.zeroValue304
 t173:=Tryz.underlying306
 a173:=Tryz.isAgg306
 z173:=Tryz.sizeOf306
 v173:=Tryz.zeroValue306
 t212:=Tryz.underlying315
 a212:=Tryz.isAgg315
 z212:=Tryz.sizeOf315
 v212:=Tryz.zeroValue315
 t213:=Tryz.underlying316
 a213:=Tryz.isAgg316
 z213:=Tryz.sizeOf316
 t232:=Tryz.underlying328
 a232:=Tryz.isAgg328
 z232:=Tryz.sizeOf328
 v232:=Tryz.zeroValue328
 t233:=Tryz.underlying329
 a233:=Tryz.isAgg329
 z233:=Tryz.sizeOf329
 v233:=Tryz.zeroValue329
 g17:=by kernel_rfl
 g18:=by kernel_rfl
 g19:=by kernel_rfl
 i0:=by kernel_rfl
 i2:=by kernel_rfl
 i3:=by kernel_rfl
 i4:=by kernel_rfl
 i5:=by kernel_rfl
 i9:=by kernel_rfl
 i20:=by kernel_rfl
 i37:=by kernel_rfl
 i46:=by kernel_rfl
 i51:=by kernel_rfl
 i53:=by kernel_rfl
 i171:=by kernel_rfl
 i173:=by kernel_rfl
 i212:=by kernel_rfl
 i232:=by kernel_rfl
 i233:=by kernel_rfl
 m17:=by kernel_rfl
 m18:=by kernel_rfl
 m19:=by kernel_rfl }
open Go.RowKit Go.Sort Go.Lib in
theorem Tryz.strconv_Itoa (n:Int)(h0:-9223372036854775808≤n)(h1:n≤9223372036854775807)(w:World)(htab:Lib.TabIs Tryz.prog w "internal/strconv.uint64pow10" .u64 Lib.pow10Tab):
 Calls Tryz.prog 71 #[.int .i64 n] w fun e w'=>e=.returned (.string ⟨(Lib.itoa n).toArray⟩)∧∃k os,w'=grow (w.drewN k) os:=Any.strconv_Itoa Tryz.laysM171 n h0 h1 w htab
def Tryz.laysC245_ren:Go.Shelf.Ren:=⟨fun|245=>119|279=>168|280=>169|281=>170|282=>171|316=>203|171=>71|205=>204|243=>129|246=>179|283=>213|284=>214|285=>215|286=>216|129=>229|317=>228|318=>230|319=>231|320=>232|337=>238|338=>239|n=>n,fun|9=>9|3=>3|75=>126|167=>264|4=>4|168=>267|210=>296|37=>22|0=>0|127=>279|145=>313|143=>311|2=>2|171=>304|53=>124|5=>5|173=>306|212=>315|51=>100|20=>20|213=>316|46=>83|232=>328|233=>329|80=>68|n=>n,fun|15=>1|16=>2|17=>3|18=>6|19=>7|n=>n⟩
theorem Tryz.laysC245:Go.Proofs.LaysC.n245 Tryz.prog Tryz.laysC245_ren:={
 mixed:=by kernel_rfl
 f129:=Tryz.func229.trans (congrArg some (by kernel_rfl))
 f171:=Tryz.func71.trans (congrArg some (by kernel_rfl))
 f205:=Tryz.func204.trans (congrArg some (by kernel_rfl))
 f243:=Tryz.func129.trans (congrArg some (by kernel_rfl))
 f245:=Tryz.func119.trans (congrArg some (by kernel_rfl))
 f246:=Tryz.func179.trans (congrArg some (by kernel_rfl))
 f279:=Tryz.func168.trans (congrArg some (by kernel_rfl))
 f280:=Tryz.func169.trans (congrArg some (by kernel_rfl))
 f281:=Tryz.func170.trans (congrArg some (by kernel_rfl))
 f282:=Tryz.func171.trans (congrArg some (by kernel_rfl))
 f283:=Tryz.func213.trans (congrArg some (by kernel_rfl))
 f284:=Tryz.func214.trans (congrArg some (by kernel_rfl))
 f285:=Tryz.func215.trans (congrArg some (by kernel_rfl))
 f286:=Tryz.func216.trans (congrArg some (by kernel_rfl))
 f316:=Tryz.func203.trans (congrArg some (by kernel_rfl))
 f317:=Tryz.func228.trans (congrArg some (by kernel_rfl))
 f318:=Tryz.func230.trans (congrArg some (by kernel_rfl))
 f319:=Tryz.func231.trans (congrArg some (by kernel_rfl))
 f320:=Tryz.func232.trans (congrArg some (by kernel_rfl))
 f337:=Tryz.func238.trans (congrArg some (by kernel_rfl))
 f338:=Tryz.func239.trans (congrArg some (by kernel_rfl))
 t0:=Tryz.underlying0
 a0:=Tryz.isAgg0
 z0:=Tryz.sizeOf0
 v0:=Tryz.zeroValue0
 t2:=Tryz.underlying2
 a2:=Tryz.isAgg2
 z2:=Tryz.sizeOf2
 v2:=Tryz.zeroValue2
 t3:=Tryz.underlying3
 a3:=Tryz.isAgg3
 z3:=Tryz.sizeOf3
 v3:=Tryz.zeroValue3
 t4:=Tryz.underlying4
 a4:=Tryz.isAgg4
 z4:=Tryz.sizeOf4
 v4:=Tryz.zeroValue4
 t5:=Tryz.underlying5
 a5:=Tryz.isAgg5
 z5:=Tryz.sizeOf5
 v5:=Tryz.zeroValue5
 t9:=Tryz.underlying9
 a9:=Tryz.isAgg9
 z9:=Tryz.sizeOf9
 v9:=Tryz.zeroValue9
 t20:=Tryz.underlying20
 a20:=Tryz.isAgg20
 z20:=Tryz.sizeOf20
 v20:=Tryz.zeroValue20
 t37:=Tryz.underlying22
 a37:=Tryz.isAgg22
 z37:=Tryz.sizeOf22
 v37:=Tryz.zeroValue22
 t46:=Tryz.underlying83
 a46:=Tryz.isAgg83
 z46:=Tryz.sizeOf83
 v46:=Tryz.zeroValue83
 t51:=Tryz.underlying100
 a51:=Tryz.isAgg100
 z51:=Tryz.sizeOf100
 v51:=Tryz.zeroValue100
 t53:=Tryz.underlying124
 a53:=Tryz.isAgg124
 z53:=Tryz.sizeOf124
 v53:=Tryz.zeroValue124
 t75:=Tryz.underlying126
 a75:=Tryz.isAgg126
 z75:=Tryz.sizeOf126
 v75:=Tryz.zeroValue126
 t127:=Tryz.underlying279
 a127:=Tryz.isAgg279
 z127:=Tryz.sizeOf279
 v127:=Tryz.zeroValue279
 t143:=Tryz.underlying311
 a143:=Tryz.isAgg311
 z143:=Tryz.sizeOf311
 v143:=Tryz.zeroValue311
 t145:=Tryz.underlying313
 a145:=Tryz.isAgg313
 z145:=Tryz.sizeOf313
 v145:=Tryz.zeroValue313
 t167:=Tryz.underlying264
 a167:=Tryz.isAgg264
 z167:=Tryz.sizeOf264
 v167:=Tryz.zeroValue264
 t168:=Tryz.underlying267
 a168:=Tryz.isAgg267
 z168:=Tryz.sizeOf267
 v168:=Tryz.zeroValue267
 t171:=Tryz.underlying304
 a171:=Tryz.isAgg304
 z171:=Tryz.sizeOf304
 v171:=Tryz.zeroValue304
 t173:=Tryz.underlying306
 a173:=Tryz.isAgg306
 z173:=Tryz.sizeOf306
 v173:=Tryz.zeroValue306
 t210:=Tryz.underlying296
 a210:=Tryz.isAgg296
 z210:=Tryz.sizeOf296
 v210:=Tryz.zeroValue296
 t212:=Tryz.underlying315
 a212:=Tryz.isAgg315
 z212:=Tryz.sizeOf315
 v212:=Tryz.zeroValue315
 t213:=Tryz.underlying316
 a213:=Tryz.isAgg316
 z213:=Tryz.sizeOf316
 t232:=Tryz.underlying328
 a232:=Tryz.isAgg328
 z232:=Tryz.sizeOf328
 v232:=Tryz.zeroValue328
 t233:=Tryz.underlying329
 a233:=Tryz.isAgg329
 z233:=Tryz.sizeOf329
 v233:=Tryz.zeroValue329
 g15:=by kernel_rfl
 g16:=by kernel_rfl
 g17:=by kernel_rfl
 g18:=by kernel_rfl
 g19:=by kernel_rfl
 t80:=Tryz.underlying68
 a80:=Tryz.isAgg68
 z80:=Tryz.sizeOf68
 v80:=Tryz.zeroValue68
 i0:=by kernel_rfl
 i2:=by kernel_rfl
 i3:=by kernel_rfl
 i4:=by kernel_rfl
 i5:=by kernel_rfl
 i9:=by kernel_rfl
 i20:=by kernel_rfl
 i37:=by kernel_rfl
 i46:=by kernel_rfl
 i51:=by kernel_rfl
 i53:=by kernel_rfl
 i75:=by kernel_rfl
 i80:=by kernel_rfl
 i127:=by kernel_rfl
 i143:=by kernel_rfl
 i145:=by kernel_rfl
 i167:=by kernel_rfl
 i168:=by kernel_rfl
 i171:=by kernel_rfl
 i173:=by kernel_rfl
 i210:=by kernel_rfl
 i212:=by kernel_rfl
 i232:=by kernel_rfl
 i233:=by kernel_rfl
 m15:=by kernel_rfl
 m16:=by kernel_rfl
 m17:=by kernel_rfl
 m18:=by kernel_rfl
 m19:=by kernel_rfl
 c0:=by kernel_rfl
 c2:=by kernel_rfl
 c3:=by kernel_rfl
 c4:=by kernel_rfl
 c5:=by kernel_rfl
 c9:=by kernel_rfl
 c20:=by kernel_rfl
 c37:=by kernel_rfl
 c46:=by kernel_rfl
 c51:=by kernel_rfl
 c53:=by kernel_rfl
 c75:=by kernel_rfl
 c80:=by kernel_rfl
 c127:=by kernel_rfl
 c143:=by kernel_rfl
 c145:=by kernel_rfl
 c167:=by kernel_rfl
 c168:=by kernel_rfl
 c171:=by kernel_rfl
 c173:=by kernel_rfl
 c210:=by kernel_rfl
 c212:=by kernel_rfl
 c213:=by kernel_rfl
 c232:=by kernel_rfl
 c233:=by kernel_rfl }
open Go.RowKit in
theorem Tryz.strconv_toError_syntax (fn s:ByteArray)(base bits:Int)(ev:Value)(w:World)(hlim:s.size≤281474976710656)(hv:w.cell? ⟨1,0,none⟩=some ev)(hev:ev=.nilIface∨∃te pe,ev=.iface te pe):
 Calls Tryz.prog 119 #[.string fn,.string s,.int .i64 base,.int .i64 bits,.iface 264 (.int .i64 2)] w fun e w'=>∃N,e=.returned (.iface 267 (.pointer (some ⟨N,0,none⟩)))∧w.heap.size≤N∧w'.heap[N]? =some (.cells #[.string fn,.string s,ev] 296 (0,0))∧Below w.heap.size w w':=Any.strconv_toError_syntax Tryz.laysC245 fn s base bits ev w hlim hv hev
def Tryz.lays321_ren:Go.Shelf.Ren:=⟨fun|321=>166|n=>n,fun|5=>5|n=>n,fun|n=>n⟩
theorem Tryz.lays321:Go.Proofs.Lays.n321 Tryz.prog Tryz.lays321_ren:={
 mixed:=by kernel_rfl
 f321:=Tryz.func166.trans (congrArg some (by kernel_rfl))
 t5:=Tryz.underlying5
 a5:=Tryz.isAgg5
 z5:=Tryz.sizeOf5
 v5:=Tryz.zeroValue5 }
open Go.RowKit in
theorem Tryz.internal_strconv_lower (c:Int)(w:World):
 Calls Tryz.prog 166 #[.int .u8 c] w fun e w'=>e=.returned (.int .u8 (bits .or .u8 c 32))∧w'=w:=Any.internal_strconv_lower Tryz.lays321 c w
def Tryz.lays287_ren:Go.Shelf.Ren:=⟨fun|287=>118|321=>166|322=>167|n=>n,fun|9=>9|3=>3|53=>124|75=>126|4=>4|167=>264|5=>5|46=>83|37=>22|0=>0|21=>21|80=>68|n=>n,fun|n=>n⟩
theorem Tryz.lays287:Go.Proofs.Lays.n287 Tryz.prog Tryz.lays287_ren:={
 mixed:=by kernel_rfl
 f287:=Tryz.func118.trans (congrArg some (by kernel_rfl))
 f321:=Tryz.func166.trans (congrArg some (by kernel_rfl))
 f322:=Tryz.func167.trans (congrArg some (by kernel_rfl))
 t0:=Tryz.underlying0
 a0:=Tryz.isAgg0
 z0:=Tryz.sizeOf0
 v0:=Tryz.zeroValue0
 t3:=Tryz.underlying3
 a3:=Tryz.isAgg3
 z3:=Tryz.sizeOf3
 v3:=Tryz.zeroValue3
 t4:=Tryz.underlying4
 a4:=Tryz.isAgg4
 z4:=Tryz.sizeOf4
 v4:=Tryz.zeroValue4
 t5:=Tryz.underlying5
 a5:=Tryz.isAgg5
 z5:=Tryz.sizeOf5
 v5:=Tryz.zeroValue5
 t9:=Tryz.underlying9
 a9:=Tryz.isAgg9
 z9:=Tryz.sizeOf9
 v9:=Tryz.zeroValue9
 t21:=Tryz.underlying21
 a21:=Tryz.isAgg21
 z21:=Tryz.sizeOf21
 v21:=Tryz.zeroValue21
 t37:=Tryz.underlying22
 a37:=Tryz.isAgg22
 z37:=Tryz.sizeOf22
 v37:=Tryz.zeroValue22
 t46:=Tryz.underlying83
 a46:=Tryz.isAgg83
 z46:=Tryz.sizeOf83
 v46:=Tryz.zeroValue83
 t53:=Tryz.underlying124
 a53:=Tryz.isAgg124
 z53:=Tryz.sizeOf124
 v53:=Tryz.zeroValue124
 t75:=Tryz.underlying126
 a75:=Tryz.isAgg126
 z75:=Tryz.sizeOf126
 v75:=Tryz.zeroValue126
 t167:=Tryz.underlying264
 a167:=Tryz.isAgg264
 z167:=Tryz.sizeOf264
 v167:=Tryz.zeroValue264 }
open Go.RowKit in
theorem Tryz.strconv_toError_range (fn s:ByteArray)(base bits:Int)(ev:Value)(w:World)(hlim:s.size≤281474976710656)(hv:w.cell? ⟨2,0,none⟩=some ev)(hev:ev=.nilIface∨∃te pe,ev=.iface te pe):
 Calls Tryz.prog 119 #[.string fn,.string s,.int .i64 base,.int .i64 bits,.iface 264 (.int .i64 1)] w fun e w'=>∃N,e=.returned (.iface 267 (.pointer (some ⟨N,0,none⟩)))∧w.heap.size≤N∧w'.heap[N]? =some (.cells #[.string fn,.string s,ev] 296 (0,0))∧Below w.heap.size w w':=Any.strconv_toError_range Tryz.laysC245 fn s base bits ev w hlim hv hev
def Tryz.laysC172_ren:Go.Shelf.Ren:=⟨fun|172=>205|244=>226|245=>119|247=>237|279=>168|280=>169|281=>170|282=>171|287=>118|316=>203|171=>71|205=>204|321=>166|322=>167|243=>129|246=>179|283=>213|284=>214|285=>215|286=>216|129=>229|317=>228|318=>230|319=>231|320=>232|337=>238|338=>239|n=>n,fun|9=>9|3=>3|75=>126|76=>211|4=>4|5=>5|167=>264|37=>22|0=>0|85=>325|2=>2|168=>267|53=>124|175=>127|46=>83|210=>296|127=>279|145=>313|143=>311|21=>21|171=>304|173=>306|212=>315|51=>100|20=>20|213=>316|232=>328|233=>329|80=>68|n=>n,fun|15=>1|16=>2|17=>3|18=>6|19=>7|n=>n⟩
theorem Tryz.laysC172:Go.Proofs.LaysC.n172 Tryz.prog Tryz.laysC172_ren:={
 mixed:=by kernel_rfl
 f129:=Tryz.func229.trans (congrArg some (by kernel_rfl))
 f171:=Tryz.func71.trans (congrArg some (by kernel_rfl))
 f172:=Tryz.func205.trans (congrArg some (by kernel_rfl))
 f205:=Tryz.func204.trans (congrArg some (by kernel_rfl))
 f243:=Tryz.func129.trans (congrArg some (by kernel_rfl))
 f244:=Tryz.func226.trans (congrArg some (by kernel_rfl))
 f245:=Tryz.func119.trans (congrArg some (by kernel_rfl))
 f246:=Tryz.func179.trans (congrArg some (by kernel_rfl))
 f247:=Tryz.func237.trans (congrArg some (by kernel_rfl))
 f279:=Tryz.func168.trans (congrArg some (by kernel_rfl))
 f280:=Tryz.func169.trans (congrArg some (by kernel_rfl))
 f281:=Tryz.func170.trans (congrArg some (by kernel_rfl))
 f282:=Tryz.func171.trans (congrArg some (by kernel_rfl))
 f283:=Tryz.func213.trans (congrArg some (by kernel_rfl))
 f284:=Tryz.func214.trans (congrArg some (by kernel_rfl))
 f285:=Tryz.func215.trans (congrArg some (by kernel_rfl))
 f286:=Tryz.func216.trans (congrArg some (by kernel_rfl))
 f287:=Tryz.func118.trans (congrArg some (by kernel_rfl))
 f316:=Tryz.func203.trans (congrArg some (by kernel_rfl))
 f317:=Tryz.func228.trans (congrArg some (by kernel_rfl))
 f318:=Tryz.func230.trans (congrArg some (by kernel_rfl))
 f319:=Tryz.func231.trans (congrArg some (by kernel_rfl))
 f320:=Tryz.func232.trans (congrArg some (by kernel_rfl))
 f321:=Tryz.func166.trans (congrArg some (by kernel_rfl))
 f322:=Tryz.func167.trans (congrArg some (by kernel_rfl))
 f337:=Tryz.func238.trans (congrArg some (by kernel_rfl))
 f338:=Tryz.func239.trans (congrArg some (by kernel_rfl))
 t0:=Tryz.underlying0
 a0:=Tryz.isAgg0
 z0:=Tryz.sizeOf0
 v0:=Tryz.zeroValue0
 t2:=Tryz.underlying2
 a2:=Tryz.isAgg2
 z2:=Tryz.sizeOf2
 v2:=Tryz.zeroValue2
 t3:=Tryz.underlying3
 a3:=Tryz.isAgg3
 z3:=Tryz.sizeOf3
 v3:=Tryz.zeroValue3
 t4:=Tryz.underlying4
 a4:=Tryz.isAgg4
 z4:=Tryz.sizeOf4
 v4:=Tryz.zeroValue4
 t5:=Tryz.underlying5
 a5:=Tryz.isAgg5
 z5:=Tryz.sizeOf5
 v5:=Tryz.zeroValue5
 t9:=Tryz.underlying9
 a9:=Tryz.isAgg9
 z9:=Tryz.sizeOf9
 v9:=Tryz.zeroValue9
 t20:=Tryz.underlying20
 a20:=Tryz.isAgg20
 z20:=Tryz.sizeOf20
 v20:=Tryz.zeroValue20
 t21:=Tryz.underlying21
 a21:=Tryz.isAgg21
 z21:=Tryz.sizeOf21
 v21:=Tryz.zeroValue21
 t37:=Tryz.underlying22
 a37:=Tryz.isAgg22
 z37:=Tryz.sizeOf22
 v37:=Tryz.zeroValue22
 t46:=Tryz.underlying83
 a46:=Tryz.isAgg83
 z46:=Tryz.sizeOf83
 v46:=Tryz.zeroValue83
 t51:=Tryz.underlying100
 a51:=Tryz.isAgg100
 z51:=Tryz.sizeOf100
 v51:=Tryz.zeroValue100
 t53:=Tryz.underlying124
 a53:=Tryz.isAgg124
 z53:=Tryz.sizeOf124
 v53:=Tryz.zeroValue124
 t75:=Tryz.underlying126
 a75:=Tryz.isAgg126
 z75:=Tryz.sizeOf126
 v75:=Tryz.zeroValue126
 t76:=Tryz.underlying211
 a76:=Tryz.isAgg211
 z76:=Tryz.sizeOf211
 v76:=Tryz.zeroValue211
 t85:=Tryz.underlying325
 a85:=Tryz.isAgg325
 z85:=Tryz.sizeOf325
 v85:=Tryz.zeroValue325
 t127:=Tryz.underlying279
 a127:=Tryz.isAgg279
 z127:=Tryz.sizeOf279
 v127:=Tryz.zeroValue279
 t143:=Tryz.underlying311
 a143:=Tryz.isAgg311
 z143:=Tryz.sizeOf311
 v143:=Tryz.zeroValue311
 t145:=Tryz.underlying313
 a145:=Tryz.isAgg313
 z145:=Tryz.sizeOf313
 v145:=Tryz.zeroValue313
 t167:=Tryz.underlying264
 a167:=Tryz.isAgg264
 z167:=Tryz.sizeOf264
 v167:=Tryz.zeroValue264
 t168:=Tryz.underlying267
 a168:=Tryz.isAgg267
 z168:=Tryz.sizeOf267
 v168:=Tryz.zeroValue267
 t171:=Tryz.underlying304
 a171:=Tryz.isAgg304
 z171:=Tryz.sizeOf304
 v171:=Tryz.zeroValue304
 t173:=Tryz.underlying306
 a173:=Tryz.isAgg306
 z173:=Tryz.sizeOf306
 v173:=Tryz.zeroValue306
 t175:=Tryz.underlying127
 a175:=Tryz.isAgg127
 z175:=Tryz.sizeOf127
 v175:=Tryz.zeroValue127
 t210:=Tryz.underlying296
 a210:=Tryz.isAgg296
 z210:=Tryz.sizeOf296
 v210:=Tryz.zeroValue296
 t212:=Tryz.underlying315
 a212:=Tryz.isAgg315
 z212:=Tryz.sizeOf315
 v212:=Tryz.zeroValue315
 t213:=Tryz.underlying316
 a213:=Tryz.isAgg316
 z213:=Tryz.sizeOf316
 t232:=Tryz.underlying328
 a232:=Tryz.isAgg328
 z232:=Tryz.sizeOf328
 v232:=Tryz.zeroValue328
 t233:=Tryz.underlying329
 a233:=Tryz.isAgg329
 z233:=Tryz.sizeOf329
 v233:=Tryz.zeroValue329
 g15:=by kernel_rfl
 g16:=by kernel_rfl
 g17:=by kernel_rfl
 g18:=by kernel_rfl
 g19:=by kernel_rfl
 t80:=Tryz.underlying68
 a80:=Tryz.isAgg68
 z80:=Tryz.sizeOf68
 v80:=Tryz.zeroValue68
 i0:=by kernel_rfl
 i2:=by kernel_rfl
 i3:=by kernel_rfl
 i4:=by kernel_rfl
 i5:=by kernel_rfl
 i9:=by kernel_rfl
 i20:=by kernel_rfl
 i21:=by kernel_rfl
 i37:=by kernel_rfl
 i46:=by kernel_rfl
 i51:=by kernel_rfl
 i53:=by kernel_rfl
 i75:=by kernel_rfl
 i76:=by kernel_rfl
 i80:=by kernel_rfl
 i85:=by kernel_rfl
 i127:=by kernel_rfl
 i143:=by kernel_rfl
 i145:=by kernel_rfl
 i167:=by kernel_rfl
 i168:=by kernel_rfl
 i171:=by kernel_rfl
 i173:=by kernel_rfl
 i175:=by kernel_rfl
 i210:=by kernel_rfl
 i212:=by kernel_rfl
 i232:=by kernel_rfl
 i233:=by kernel_rfl
 m15:=by kernel_rfl
 m16:=by kernel_rfl
 m17:=by kernel_rfl
 m18:=by kernel_rfl
 m19:=by kernel_rfl
 c0:=by kernel_rfl
 c2:=by kernel_rfl
 c3:=by kernel_rfl
 c4:=by kernel_rfl
 c5:=by kernel_rfl
 c9:=by kernel_rfl
 c20:=by kernel_rfl
 c21:=by kernel_rfl
 c37:=by kernel_rfl
 c46:=by kernel_rfl
 c51:=by kernel_rfl
 c53:=by kernel_rfl
 c75:=by kernel_rfl
 c76:=by kernel_rfl
 c80:=by kernel_rfl
 c85:=by kernel_rfl
 c127:=by kernel_rfl
 c143:=by kernel_rfl
 c145:=by kernel_rfl
 c167:=by kernel_rfl
 c168:=by kernel_rfl
 c171:=by kernel_rfl
 c173:=by kernel_rfl
 c175:=by kernel_rfl
 c210:=by kernel_rfl
 c212:=by kernel_rfl
 c213:=by kernel_rfl
 c232:=by kernel_rfl
 c233:=by kernel_rfl }
open Go.RowKit in
theorem Tryz.strconv_Atoi_ok (s:ByteArray)(hmax:s.size≤9223372036854775806)(v:Int)(h:Lib.atoiAll s.data.toList=.ok v)(w:World):
 Calls Tryz.prog 205 #[.string s] w fun e w'=>e=.returned (.tuple #[.int .i64 v,.nilIface])∧(w'=w∨∃t,w'=Lib.bytesWorld w 5 t):=Any.strconv_Atoi_ok Tryz.laysC172 s hmax v h w
open Go.RowKit in
theorem Tryz.strconv_Atoi_syntax (s:ByteArray)(hlim:s.size≤281474976710656)(h:Lib.atoiAll s.data.toList=Lib.atoiAll [])(ev:Value)(w:World)(hv:w.cell? ⟨1,0,none⟩=some ev)(hev:ev=.nilIface∨∃te pe,ev=.iface te pe):
 Calls Tryz.prog 205 #[.string s] w fun e w'=>∃N,e=.returned (.tuple #[.int .i64 (0),.iface 267 (.pointer (some ⟨N,0,none⟩))])∧w.heap.size≤N∧w'.heap[N]? =some (.cells #[.string ⟨#[65,116,111,105]⟩,.string s,ev] 296 (0,0))∧Below w.heap.size w w':=Any.strconv_Atoi_syntax Tryz.laysC172 s hlim h ev w hv hev
open Go.RowKit in
theorem Tryz.strconv_Atoi_range (s:ByteArray)(hlim:s.size≤281474976710656)(h:Lib.atoiAll s.data.toList=.range)(ev:Value)(w:World)(hv:w.cell? ⟨2,0,none⟩=some ev)(hev:ev=.nilIface∨∃te pe,ev=.iface te pe):
 Calls Tryz.prog 205 #[.string s] w fun e w'=>∃N,e=.returned (.tuple #[.int .i64 (Lib.atoiSat s.data.toList),.iface 267 (.pointer (some ⟨N,0,none⟩))])∧w.heap.size≤N∧w'.heap[N]? =some (.cells #[.string ⟨#[65,116,111,105]⟩,.string s,ev] 296 (0,0))∧Below w.heap.size w w':=Any.strconv_Atoi_range Tryz.laysC172 s hlim h ev w hv hev
open Go.RowKit in
theorem Tryz.internal_strconv_ParseUint_empty (base bits:Int)(w:World):
 Calls Tryz.prog 118 #[.string ⟨#[]⟩,.int .i64 base,.int .i64 bits] w fun e w'=>e=.returned (.tuple #[.int .u64 0,.iface 264 (.int .i64 2)])∧w'=w:=Any.internal_strconv_ParseUint_empty Tryz.lays287 base bits w
def Tryz.laysPu14_ren:Go.Shelf.Ren:=⟨fun|14=>58|16=>118|17=>119|19=>166|20=>167|21=>168|22=>169|23=>170|24=>171|25=>203|27=>71|26=>204|28=>129|29=>179|30=>213|31=>214|32=>215|33=>216|35=>229|34=>228|36=>230|37=>231|38=>232|39=>238|40=>239|n=>n,fun|9=>9|3=>3|22=>124|24=>126|25=>127|4=>4|34=>264|5=>5|36=>83|37=>22|0=>0|39=>267|21=>21|44=>296|47=>279|50=>313|48=>311|2=>2|52=>304|55=>306|59=>315|60=>100|20=>20|61=>316|65=>328|66=>329|67=>68|n=>n,fun|0=>1|1=>2|2=>3|3=>6|4=>7|n=>n⟩
theorem Tryz.laysPu14:Go.Proofs.LaysPu.n14 Tryz.prog Tryz.laysPu14_ren:={
 mixed:=by kernel_rfl
 f14:=Tryz.func58.trans (congrArg some (by kernel_rfl))
 f16:=Tryz.func118.trans (congrArg some (by kernel_rfl))
 f17:=Tryz.func119.trans (congrArg some (by kernel_rfl))
 f19:=Tryz.func166.trans (congrArg some (by kernel_rfl))
 f20:=Tryz.func167.trans (congrArg some (by kernel_rfl))
 f21:=Tryz.func168.trans (congrArg some (by kernel_rfl))
 f22:=Tryz.func169.trans (congrArg some (by kernel_rfl))
 f23:=Tryz.func170.trans (congrArg some (by kernel_rfl))
 f24:=Tryz.func171.trans (congrArg some (by kernel_rfl))
 f25:=Tryz.func203.trans (congrArg some (by kernel_rfl))
 f26:=Tryz.func204.trans (congrArg some (by kernel_rfl))
 f27:=Tryz.func71.trans (congrArg some (by kernel_rfl))
 f28:=Tryz.func129.trans (congrArg some (by kernel_rfl))
 f29:=Tryz.func179.trans (congrArg some (by kernel_rfl))
 f30:=Tryz.func213.trans (congrArg some (by kernel_rfl))
 f31:=Tryz.func214.trans (congrArg some (by kernel_rfl))
 f32:=Tryz.func215.trans (congrArg some (by kernel_rfl))
 f33:=Tryz.func216.trans (congrArg some (by kernel_rfl))
 f34:=Tryz.func228.trans (congrArg some (by kernel_rfl))
 f35:=Tryz.func229.trans (congrArg some (by kernel_rfl))
 f36:=Tryz.func230.trans (congrArg some (by kernel_rfl))
 f37:=Tryz.func231.trans (congrArg some (by kernel_rfl))
 f38:=Tryz.func232.trans (congrArg some (by kernel_rfl))
 f39:=Tryz.func238.trans (congrArg some (by kernel_rfl))
 f40:=Tryz.func239.trans (congrArg some (by kernel_rfl))
 t0:=Tryz.underlying0
 a0:=Tryz.isAgg0
 z0:=Tryz.sizeOf0
 v0:=Tryz.zeroValue0
 i0:=by kernel_rfl
 t2:=Tryz.underlying2
 a2:=Tryz.isAgg2
 z2:=Tryz.sizeOf2
 v2:=Tryz.zeroValue2
 i2:=by kernel_rfl
 t3:=Tryz.underlying3
 a3:=Tryz.isAgg3
 z3:=Tryz.sizeOf3
 v3:=Tryz.zeroValue3
 i3:=by kernel_rfl
 t4:=Tryz.underlying4
 a4:=Tryz.isAgg4
 z4:=Tryz.sizeOf4
 v4:=Tryz.zeroValue4
 i4:=by kernel_rfl
 t5:=Tryz.underlying5
 a5:=Tryz.isAgg5
 z5:=Tryz.sizeOf5
 v5:=Tryz.zeroValue5
 i5:=by kernel_rfl
 t9:=Tryz.underlying9
 a9:=Tryz.isAgg9
 z9:=Tryz.sizeOf9
 v9:=Tryz.zeroValue9
 i9:=by kernel_rfl
 t20:=Tryz.underlying20
 a20:=Tryz.isAgg20
 z20:=Tryz.sizeOf20
 v20:=Tryz.zeroValue20
 i20:=by kernel_rfl
 t21:=Tryz.underlying21
 a21:=Tryz.isAgg21
 z21:=Tryz.sizeOf21
 v21:=Tryz.zeroValue21
 i21:=by kernel_rfl
 t22:=Tryz.underlying124
 a22:=Tryz.isAgg124
 z22:=Tryz.sizeOf124
 v22:=Tryz.zeroValue124
 i22:=by kernel_rfl
 t24:=Tryz.underlying126
 a24:=Tryz.isAgg126
 z24:=Tryz.sizeOf126
 v24:=Tryz.zeroValue126
 i24:=by kernel_rfl
 t25:=Tryz.underlying127
 a25:=Tryz.isAgg127
 z25:=Tryz.sizeOf127
 v25:=Tryz.zeroValue127
 i25:=by kernel_rfl
 t34:=Tryz.underlying264
 a34:=Tryz.isAgg264
 z34:=Tryz.sizeOf264
 v34:=Tryz.zeroValue264
 i34:=by kernel_rfl
 c34:=by kernel_rfl
 t36:=Tryz.underlying83
 a36:=Tryz.isAgg83
 z36:=Tryz.sizeOf83
 v36:=Tryz.zeroValue83
 i36:=by kernel_rfl
 t37:=Tryz.underlying22
 a37:=Tryz.isAgg22
 z37:=Tryz.sizeOf22
 v37:=Tryz.zeroValue22
 i37:=by kernel_rfl
 t39:=Tryz.underlying267
 a39:=Tryz.isAgg267
 z39:=Tryz.sizeOf267
 v39:=Tryz.zeroValue267
 i39:=by kernel_rfl
 t44:=Tryz.underlying296
 a44:=Tryz.isAgg296
 z44:=Tryz.sizeOf296
 v44:=Tryz.zeroValue296
 i44:=by kernel_rfl
 t47:=Tryz.underlying279
 a47:=Tryz.isAgg279
 z47:=Tryz.sizeOf279
 v47:=Tryz.zeroValue279
 i47:=by kernel_rfl
 t48:=Tryz.underlying311
 a48:=Tryz.isAgg311
 z48:=Tryz.sizeOf311
 v48:=Tryz.zeroValue311
 i48:=by kernel_rfl
 t50:=Tryz.underlying313
 a50:=Tryz.isAgg313
 z50:=Tryz.sizeOf313
 v50:=Tryz.zeroValue313
 i50:=by kernel_rfl
 t52:=Tryz.underlying304
 a52:=Tryz.isAgg304
 z52:=Tryz.sizeOf304
 v52:=Tryz.zeroValue304
 i52:=by kernel_rfl
 t55:=Tryz.underlying306
 a55:=Tryz.isAgg306
 z55:=Tryz.sizeOf306
 v55:=Tryz.zeroValue306
 i55:=by kernel_rfl
 t59:=Tryz.underlying315
 a59:=Tryz.isAgg315
 z59:=Tryz.sizeOf315
 v59:=Tryz.zeroValue315
 i59:=by kernel_rfl
 t60:=Tryz.underlying100
 a60:=Tryz.isAgg100
 z60:=Tryz.sizeOf100
 v60:=Tryz.zeroValue100
 i60:=by kernel_rfl
 t61:=Tryz.underlying316
 a61:=Tryz.isAgg316
 z61:=Tryz.sizeOf316
 t65:=Tryz.underlying328
 a65:=Tryz.isAgg328
 z65:=Tryz.sizeOf328
 v65:=Tryz.zeroValue328
 i65:=by kernel_rfl
 t66:=Tryz.underlying329
 a66:=Tryz.isAgg329
 z66:=Tryz.sizeOf329
 v66:=Tryz.zeroValue329
 i66:=by kernel_rfl
 t67:=Tryz.underlying68
 a67:=Tryz.isAgg68
 z67:=Tryz.sizeOf68
 v67:=Tryz.zeroValue68
 i67:=by kernel_rfl
 g0:=by kernel_rfl
 m0:=by kernel_rfl
 g1:=by kernel_rfl
 m1:=by kernel_rfl
 g2:=by kernel_rfl
 m2:=by kernel_rfl
 g3:=by kernel_rfl
 m3:=by kernel_rfl
 g4:=by kernel_rfl
 m4:=by kernel_rfl }
open Go.RowKit in
theorem Tryz.strconv_ParseUint_10_at16_ok (s:ByteArray)(hmax:s.size≤9223372036854775806)(u:Nat)(h:Lib.parseUintB 16 s.data.toList=.ok u)(w:World):
 Calls Tryz.prog 58 #[.string s,.int .i64 10,.int .i64 16] w fun e w'=>e=.returned (.tuple #[.int .u64 u,.nilIface])∧(w'=w∨w'=Lib.bytesWorld w 5 s):=Any.strconv_ParseUint_10_at16_ok Tryz.laysPu14 s hmax u h w
open Go.RowKit in
theorem Tryz.strconv_ParseUint_10_at16_syntax (s:ByteArray)(hlim:s.size≤281474976710656)(h:Lib.parseUintB 16 s.data.toList=Lib.parseUintB 16 [])(ev:Value)(w:World)(hv:w.cell? ⟨1,0,none⟩=some ev)(hev:ev=.nilIface∨∃te pe,ev=.iface te pe):
 Calls Tryz.prog 58 #[.string s,.int .i64 10,.int .i64 16] w fun e w'=>∃N,e=.returned (.tuple #[.int .u64 0,.iface 267 (.pointer (some ⟨N,0,none⟩))])∧w.heap.size≤N∧w'.heap[N]? =some (.cells #[.string ⟨#[80,97,114,115,101,85,105,110,116]⟩,.string s,ev] 296 (0,0))∧Below w.heap.size w w':=Any.strconv_ParseUint_10_at16_syntax Tryz.laysPu14 s hlim h ev w hv hev
open Go.RowKit in
theorem Tryz.strconv_ParseUint_10_at16_range (s:ByteArray)(hlim:s.size≤281474976710656)(h:Lib.parseUintB 16 s.data.toList=.range)(ev:Value)(w:World)(hv:w.cell? ⟨2,0,none⟩=some ev)(hev:ev=.nilIface∨∃te pe,ev=.iface te pe):
 Calls Tryz.prog 58 #[.string s,.int .i64 10,.int .i64 16] w fun e w'=>∃N,e=.returned (.tuple #[.int .u64 65535,.iface 267 (.pointer (some ⟨N,0,none⟩))])∧w.heap.size≤N∧w'.heap[N]? =some (.cells #[.string ⟨#[80,97,114,115,101,85,105,110,116]⟩,.string s,ev] 296 (0,0))∧Below w.heap.size w w':=Any.strconv_ParseUint_10_at16_range Tryz.laysPu14 s hlim h ev w hv hev
open Go.RowKit in
theorem Tryz.strconv_ParseUint_10_at8_ok (s:ByteArray)(hmax:s.size≤9223372036854775806)(u:Nat)(h:Lib.parseUintB 8 s.data.toList=.ok u)(w:World):
 Calls Tryz.prog 58 #[.string s,.int .i64 10,.int .i64 8] w fun e w'=>e=.returned (.tuple #[.int .u64 u,.nilIface])∧(w'=w∨w'=Lib.bytesWorld w 5 s):=Any.strconv_ParseUint_10_at8_ok Tryz.laysPu14 s hmax u h w
open Go.RowKit in
theorem Tryz.strconv_ParseUint_10_at8_syntax (s:ByteArray)(hlim:s.size≤281474976710656)(h:Lib.parseUintB 8 s.data.toList=Lib.parseUintB 8 [])(ev:Value)(w:World)(hv:w.cell? ⟨1,0,none⟩=some ev)(hev:ev=.nilIface∨∃te pe,ev=.iface te pe):
 Calls Tryz.prog 58 #[.string s,.int .i64 10,.int .i64 8] w fun e w'=>∃N,e=.returned (.tuple #[.int .u64 0,.iface 267 (.pointer (some ⟨N,0,none⟩))])∧w.heap.size≤N∧w'.heap[N]? =some (.cells #[.string ⟨#[80,97,114,115,101,85,105,110,116]⟩,.string s,ev] 296 (0,0))∧Below w.heap.size w w':=Any.strconv_ParseUint_10_at8_syntax Tryz.laysPu14 s hlim h ev w hv hev
open Go.RowKit in
theorem Tryz.strconv_ParseUint_10_at8_range (s:ByteArray)(hlim:s.size≤281474976710656)(h:Lib.parseUintB 8 s.data.toList=.range)(ev:Value)(w:World)(hv:w.cell? ⟨2,0,none⟩=some ev)(hev:ev=.nilIface∨∃te pe,ev=.iface te pe):
 Calls Tryz.prog 58 #[.string s,.int .i64 10,.int .i64 8] w fun e w'=>∃N,e=.returned (.tuple #[.int .u64 255,.iface 267 (.pointer (some ⟨N,0,none⟩))])∧w.heap.size≤N∧w'.heap[N]? =some (.cells #[.string ⟨#[80,97,114,115,101,85,105,110,116]⟩,.string s,ev] 296 (0,0))∧Below w.heap.size w w':=Any.strconv_ParseUint_10_at8_range Tryz.laysPu14 s hlim h ev w hv hev
def Tryz.lays219_ren:Go.Shelf.Ren:=⟨fun|219=>202|217=>222|225=>223|224=>224|267=>225|266=>235|314=>236|n=>n,fun|9=>9|3=>3|4=>4|5=>5|46=>83|146=>323|51=>100|n=>n,fun|1=>0|n=>n⟩
def Tryz.lays145_ren:Go.Shelf.Ren:=⟨fun|145=>173|220=>206|219=>202|217=>222|225=>223|224=>224|267=>225|266=>235|314=>236|n=>n,fun|9=>9|4=>4|59=>271|3=>3|5=>5|46=>83|146=>323|51=>100|n=>n,fun|1=>0|n=>n⟩
theorem Tryz.lays145:Go.Proofs.Lays.n145 Tryz.prog Tryz.lays145_ren:={
 mixed:=by kernel_rfl
 f145:=Tryz.func173.trans (congrArg some (by kernel_rfl))
 f217:=Tryz.func222.trans (congrArg some (by kernel_rfl))
 f219:=Tryz.func202.trans (congrArg some (by kernel_rfl))
 f220:=Tryz.func206.trans (congrArg some (by kernel_rfl))
 f224:=Tryz.func224.trans (congrArg some (by kernel_rfl))
 f225:=Tryz.func223.trans (congrArg some (by kernel_rfl))
 f266:=Tryz.func235.trans (congrArg some (by kernel_rfl))
 f267:=Tryz.func225.trans (congrArg some (by kernel_rfl))
 f314:=Tryz.func236.trans (congrArg some (by kernel_rfl))
 t3:=Tryz.underlying3
 a3:=Tryz.isAgg3
 z3:=Tryz.sizeOf3
 v3:=Tryz.zeroValue3
 t4:=Tryz.underlying4
 a4:=Tryz.isAgg4
 z4:=Tryz.sizeOf4
 v4:=Tryz.zeroValue4
 t5:=Tryz.underlying5
 a5:=Tryz.isAgg5
 z5:=Tryz.sizeOf5
 v5:=Tryz.zeroValue5
 t9:=Tryz.underlying9
 a9:=Tryz.isAgg9
 z9:=Tryz.sizeOf9
 v9:=Tryz.zeroValue9
 t46:=Tryz.underlying83
 a46:=Tryz.isAgg83
 z46:=Tryz.sizeOf83
 v46:=Tryz.zeroValue83
 t51:=Tryz.underlying100
 a51:=Tryz.isAgg100
 z51:=Tryz.sizeOf100
 v51:=Tryz.zeroValue100
 t59:=Tryz.underlying271
 a59:=Tryz.isAgg271
 z59:=Tryz.sizeOf271
 v59:=Tryz.zeroValue271
 t146:=Tryz.underlying323
 a146:=Tryz.isAgg323
 z146:=Tryz.sizeOf323
 v146:=Tryz.zeroValue323
 g1:=by kernel_rfl }
open Go.RowKit Go.Lib in
theorem Tryz.strings_Cut (s sep:ByteArray)(m:Int)(w:World)(hs:s.size<4294967281)(hm:w.cell? ⟨0,0,none⟩=some (.int .i64 m)):
 Calls Tryz.prog 173 #[.string s,.string sep] w fun e w'=>e=.returned (.tuple #[.string ⟨(Lib.cut s.data.toList sep.data.toList).1.toArray⟩,.string ⟨(Lib.cut s.data.toList sep.data.toList).2.1.toArray⟩,.bool (Lib.cut s.data.toList sep.data.toList).2.2])∧∃n,w'=w.drewN n:=Any.strings_Cut Tryz.lays145 s sep m w hs hm
def Tryz.laysGw15_ren:Go.Shelf.Ren:=⟨fun|15=>208|20=>227|n=>n,fun|9=>9|23=>299|3=>3|4=>4|0=>0|21=>21|n=>n,fun|n=>n⟩
theorem Tryz.laysGw15:Go.Proofs.LaysGw.n15 Tryz.prog Tryz.laysGw15_ren:={
 mixed:=by kernel_rfl
 f15:=Tryz.func208.trans (congrArg some (by kernel_rfl))
 f20:=Tryz.func227.trans (congrArg some (by kernel_rfl))
 t0:=Tryz.underlying0
 a0:=Tryz.isAgg0
 z0:=Tryz.sizeOf0
 v0:=Tryz.zeroValue0
 i0:=by kernel_rfl
 t3:=Tryz.underlying3
 a3:=Tryz.isAgg3
 z3:=Tryz.sizeOf3
 v3:=Tryz.zeroValue3
 i3:=by kernel_rfl
 t4:=Tryz.underlying4
 a4:=Tryz.isAgg4
 z4:=Tryz.sizeOf4
 v4:=Tryz.zeroValue4
 i4:=by kernel_rfl
 t9:=Tryz.underlying9
 a9:=Tryz.isAgg9
 z9:=Tryz.sizeOf9
 v9:=Tryz.zeroValue9
 i9:=by kernel_rfl
 t21:=Tryz.underlying21
 a21:=Tryz.isAgg21
 z21:=Tryz.sizeOf21
 v21:=Tryz.zeroValue21
 i21:=by kernel_rfl
 t23:=Tryz.underlying299
 a23:=Tryz.isAgg299
 z23:=Tryz.sizeOf299
 v23:=Tryz.zeroValue299
 i23:=by kernel_rfl }
def Tryz.lays221_ren:Go.Shelf.Ren:=⟨fun|221=>117|268=>163|138=>164|143=>165|195=>199|197=>200|218=>201|219=>202|260=>221|217=>222|225=>223|224=>224|267=>225|266=>235|314=>236|n=>n,fun|9=>9|3=>3|31=>76|4=>4|0=>0|105=>291|21=>21|5=>5|46=>83|119=>319|139=>322|138=>321|146=>323|51=>100|n=>n,fun|1=>0|3=>4|4=>5|n=>n⟩
def Tryz.lays146_ren:Go.Shelf.Ren:=⟨fun|146=>57|221=>117|268=>163|138=>164|143=>165|195=>199|197=>200|218=>201|219=>202|260=>221|217=>222|225=>223|224=>224|267=>225|266=>235|314=>236|n=>n,fun|9=>9|31=>76|3=>3|4=>4|0=>0|105=>291|21=>21|5=>5|46=>83|119=>319|139=>322|138=>321|146=>323|51=>100|n=>n,fun|1=>0|3=>4|4=>5|n=>n⟩
theorem Tryz.lays146:Go.Proofs.Lays.n146 Tryz.prog Tryz.lays146_ren:={
 mixed:=by kernel_rfl
 f138:=Tryz.func164.trans (congrArg some (by kernel_rfl))
 f143:=Tryz.func165.trans (congrArg some (by kernel_rfl))
 f146:=Tryz.func57.trans (congrArg some (by kernel_rfl))
 f195:=Tryz.func199.trans (congrArg some (by kernel_rfl))
 f197:=Tryz.func200.trans (congrArg some (by kernel_rfl))
 f217:=Tryz.func222.trans (congrArg some (by kernel_rfl))
 f218:=Tryz.func201.trans (congrArg some (by kernel_rfl))
 f219:=Tryz.func202.trans (congrArg some (by kernel_rfl))
 f221:=Tryz.func117.trans (congrArg some (by kernel_rfl))
 f224:=Tryz.func224.trans (congrArg some (by kernel_rfl))
 f225:=Tryz.func223.trans (congrArg some (by kernel_rfl))
 f260:=Tryz.func221.trans (congrArg some (by kernel_rfl))
 f266:=Tryz.func235.trans (congrArg some (by kernel_rfl))
 f267:=Tryz.func225.trans (congrArg some (by kernel_rfl))
 f268:=Tryz.func163.trans (congrArg some (by kernel_rfl))
 f314:=Tryz.func236.trans (congrArg some (by kernel_rfl))
 t0:=Tryz.underlying0
 a0:=Tryz.isAgg0
 z0:=Tryz.sizeOf0
 v0:=Tryz.zeroValue0
 t3:=Tryz.underlying3
 a3:=Tryz.isAgg3
 z3:=Tryz.sizeOf3
 v3:=Tryz.zeroValue3
 t4:=Tryz.underlying4
 a4:=Tryz.isAgg4
 z4:=Tryz.sizeOf4
 v4:=Tryz.zeroValue4
 t5:=Tryz.underlying5
 a5:=Tryz.isAgg5
 z5:=Tryz.sizeOf5
 v5:=Tryz.zeroValue5
 t9:=Tryz.underlying9
 a9:=Tryz.isAgg9
 z9:=Tryz.sizeOf9
 v9:=Tryz.zeroValue9
 t21:=Tryz.underlying21
 a21:=Tryz.isAgg21
 z21:=Tryz.sizeOf21
 v21:=Tryz.zeroValue21
 t31:=Tryz.underlying76
 a31:=Tryz.isAgg76
 z31:=Tryz.sizeOf76
 v31:=Tryz.zeroValue76
 t46:=Tryz.underlying83
 a46:=Tryz.isAgg83
 z46:=Tryz.sizeOf83
 v46:=Tryz.zeroValue83
 t51:=Tryz.underlying100
 a51:=Tryz.isAgg100
 z51:=Tryz.sizeOf100
 v51:=Tryz.zeroValue100
 t105:=Tryz.underlying291
 a105:=Tryz.isAgg291
 z105:=Tryz.sizeOf291
 v105:=Tryz.zeroValue291
 t119:=Tryz.underlying319
 a119:=Tryz.isAgg319
 z119:=Tryz.sizeOf319
 t138:=Tryz.underlying321
 a138:=Tryz.isAgg321
 z138:=Tryz.sizeOf321
 v138:=Tryz.zeroValue321
 t139:=Tryz.underlying322
 a139:=Tryz.isAgg322
 z139:=Tryz.sizeOf322
 v139:=Tryz.zeroValue322
 t146:=Tryz.underlying323
 a146:=Tryz.isAgg323
 z146:=Tryz.sizeOf323
 v146:=Tryz.zeroValue323
 g1:=by kernel_rfl
 g3:=by kernel_rfl
 g4:=by kernel_rfl }
open Go.RowKit Go.Lib in
theorem Tryz.strings_Split (s sep:ByteArray)(m:Int)(w:World)(hs:s.size<4294967281)(hm:w.cell? ⟨0,0,none⟩=some (.int .i64 m))(h1:1≤sep.size):
 Calls Tryz.prog 57 #[.string s,.string sep] w fun e w'=>
  e=.returned (.slice (some ⟨w.heap.size,0,none⟩) (Lib.countB s sep+1) (Lib.countB s sep+1))∧w'=w.alloc (.cells ((Lib.splitB sep 0 (Lib.countB s sep) s).map Value.string).toArray 9):=Any.strings_Split Tryz.lays146 (by kernel_rfl) s sep m w hs hm h1
open Go.RowKit Go.Lib in
theorem Tryz.strings_IndexFunc_grows (g:Nat)(lb:Array Value)(eg:∀args w,(callFunc g args).run Tryz.prog w=.ok (.enter g args) w)(p:Nat→Bool)(s:ByteArray)(w:World)(hp:PredGrows Tryz.prog g lb p w):
 Calls Tryz.prog 208 #[.string s,.func (.func g) #[] lb] w fun e w'=>e=.returned (.int .i64 (Lib.idxFunc p true s))∧Below w.heap.size w w':=Any.strings_IndexFunc_grows Tryz.laysGw15 g lb eg p s w hp
def Tryz.laysSlK4_ren:Go.Shelf.Ren:=⟨fun|4=>116|n=>n,fun|22=>22|4=>4|5=>5|n=>n,fun|n=>n⟩
theorem Tryz.laysSlK4:Go.Proofs.SlLaysK.n4 Tryz.prog Tryz.laysSlK4_ren:={
 mixed:=by kernel_rfl
 f4:=Tryz.func116.trans (congrArg some (by kernel_rfl))
 t4:=Tryz.underlying4
 a4:=Tryz.isAgg4
 z4:=Tryz.sizeOf4
 v4:=Tryz.zeroValue4
 t22:=Tryz.underlying22
 a22:=Tryz.isAgg22
 z22:=Tryz.sizeOf22
 v22:=Tryz.zeroValue22
 t5:=Tryz.underlying5
 i5:=by kernel_rfl }
open Go.RowKit Go.Lib in
theorem Tryz.bytes_Clone_at (a:Addr)(n c:Nat)(xs:List Int)(w:World)(hx:xs.length=n)(hbig:n≤140737488355328)(hc:∀i,i<n→w.cell? (a.add i)=some (.int .u8 (xs.getD i 0))):
 Calls Tryz.prog 116 #[.slice (some a) n c] w fun e w'=>∃v',e=.returned v'∧w'.ownsRow w.heap.size 5 1 v' n (xs.map (Value.int .u8))∧v'≠ .slice none 0 0∧Below w.heap.size w w':=Any.bytes_Clone_at Tryz.laysSlK4 a n c xs w hx hbig hc
open Go.RowKit Go.Lib in
theorem Tryz.bytes_Clone_nil (n c:Nat)(w:World):
 Calls Tryz.prog 116 #[.slice none n c] w fun e w'=>e=.returned (.slice none 0 0)∧w'=w:=Any.bytes_Clone_nil Tryz.laysSlK4 n c w
end Go.Proofs
