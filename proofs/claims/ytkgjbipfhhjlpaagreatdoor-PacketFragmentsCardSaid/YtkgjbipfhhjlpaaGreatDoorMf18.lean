import Derived.Test.YtkgjbipfhhjlpaaGreatDoorMf17
set_option linter.unusedVariables false
set_option linter.unusedSimpArgs false
set_option maxRecDepth 100000
set_option maxHeartbeats 32000000
namespace Go.Proofs.YtkgjbipfhhjlpaaGreatDoor
section
open Go.RowKit Bits
structure XE (p:Nat)(w w':World):Prop where
 below:Below p w w'
 keep:∀i,i≠p→i<w.heap.size→w'.heap[i]? =w.heap[i]?
theorem XE.trans {p:Nat}{w w1 w2:World}(h:XE p w w1)(k:XE p w1 w2):XE p w w2:=
 ⟨h.below.trans k.below,fun i hi hl=>(k.keep i hi (Jnz hl h.below.size)).trans (h.keep i hi hl)⟩
theorem XE.of {p:Nat}{w w':World}(h:Below w.heap.size w w')(hp:p<w.heap.size):XE p w w':=⟨h.mono (Nat.le_of_lt hp),fun i _ hl=>h.block i hl⟩
theorem XE.set {p:Nat}{w w':World}(h:XE p w w')(k:Nat)(v:Value):XE p w (w'.setCell ⟨p,k,none⟩ v):=
 ⟨h.below.setCell (JnA _) _,fun i hi hl=>(Below.heap_setCell _ _ _ _ hi).trans (h.keep i hi hl)⟩
theorem XE.setNew {p:Nat}{w w':World}(h:XE p w w')(hp:p<w.heap.size)(k:Nat)(v:Value):XE p w (w'.setCell ⟨w.heap.size,k,none⟩ v):=
 ⟨h.below.setCell (Nat.le_of_lt hp) _,fun i hi hl=>(Below.heap_setCell _ _ _ _ (by simp only;omega)).trans (h.keep i hi hl)⟩
theorem Rd.above {w:World}{b p:Nat}{l:List Int}{i:Nat}(h:Rd w b p l i){a:Addr}(ha:p<a.block)(u:Value):Rd (w.setCell a u) b p l i:=by
 obtain⟨oa,cap,hc,hr,hra⟩:=h.row
 have e:(w.setCell a u).heap[p]? =w.heap[p]?:=Below.heap_setCell _ _ _ _ (by omega)
 exact⟨⟨oa,cap,(World.cell?_of_block (a:=⟨p,0,none⟩) e).trans hc,hr.other (fun a' e'=>by have:=(hra a' e').2;omega) _,hra⟩,(World.cell?_of_block (a:=⟨p,1,none⟩) e).trans h.pos,fun j=>(World.frozen?_of_block (a:=⟨p,j,none⟩) e).trans (h.free j),by simpa using h.lt⟩
def JlO (w:World)(b p:Nat)(l:List Int)(i:Nat)(v err:Int):Ending→World→Prop:=fun e w'=>e=.returned (.tuple #[.int .u64 v,.int .i64 err])∧Rd w' b p l i∧XE p w w'
theorem JkR (b p:Nat)(l:List Int)(i sz:Nat)(w:World)(hw:Rd w b p l i)(h1:1≤sz)(h8:sz≤8)(hle:i+sz≤l.length)(hn:l.length≤1000000):
 Calls Tryz.prog 233 #[.pointer (some ⟨p,0,none⟩),.int .i64 sz] w (JlO w b p l (i+sz) (numAt l i sz) 0):=by
 have HW:=Jnv hw
 obtain⟨oa,cap,hc,hr,ha⟩:=hw.row
 have hpos:=hw.pos
 have hlt:=hw.lt
 have hf:=hw.free 1
 have HR:=Jnv hr
 clear ha hr hw
 go_enter Tryz.func233,Tryz.ntmps233
 go_wp2_with fail
 refine Jr (by kernel_rfl) (by kernel_rfl) ?_
 repeat go_big_quiet_step ((go_at_call 81;exact JJ (get_ok oa l.length cap l i sz _ (HR.out.later _) h1 h8 hle hn)))
 refine wpQuiet_nil ?_
 intro x
 go_wp2_with fail
 go_ret2
 refine⟨rfl,?_,?_⟩
 ·have:=(HW.out.later x).step (i+sz)
  exact this
 ·exact(XE.of x.below hlt).set 1 _
def Jlk (w:World)(b p:Nat)(l:List Int)(i:Nat)(v:Value):Ending→World→Prop:=fun e w'=>e=.returned v∧Rd w' b p l i∧XE p w w'
def JgA (w:World)(b p:Nat)(l:List Int)(i n:Nat):Ending→World→Prop:=fun e w'=>∃oa cap,e=.returned (.slice oa n cap)∧Rd w' b p l i∧XE p w w'
def JbQ (w:World)(b p:Nat)(l:List Int)(i n:Nat)(err:Int):Ending→World→Prop:=fun e w'=>∃oa cap,e=.returned (.tuple #[.slice oa n cap,.int .i64 err])∧Rd w' b p l i∧XE p w w'
theorem Zk (b p:Nat)(l:List Int)(i sz:Nat)(w:World)(hw:Rd w b p l i)(hle:i+sz≤l.length)(hn:l.length≤1000000):
 Calls Tryz.prog 219 #[.pointer (some ⟨p,0,none⟩),.int .i64 sz] w (JbQ w b p l (i+sz) sz 0):=by
 have HW:=Jnv hw
 obtain⟨oa,cap,hc,hr,ha⟩:=hw.row
 have hpos:=hw.pos
 have hlt:=hw.lt
 have hf:=hw.free 1
 have HR:=Jnv hr
 have hle':=hr.le
 have HL:=Jnv (Jfi b p l i w hw (by omega) hn)
 have h0:decide ((sz:Int)<0)=false:=by simp
 have h1:decide ((sz:Int)>(l.length:Int)-i)=false:=by simp;omega
 have hcut:∀w,(Instr.slice 22 (.slice oa l.length cap) (some (.int .i64 (i:Int))) (some (.int .i64 ((i:Int)+sz))) (some (.int .i64 ((i:Int)+sz)))).run Tryz.prog w=.ok (.slice (Jp oa i (i+sz) 1) (i+sz-i) (i+sz-i)) w:=
  fun w=>Jhe (P:=Tryz.prog) 22 oa l.length cap 1 elemBytes sizeBytes i (i+sz) i ((i:Int)+sz) rfl (by omega) (by omega) (by omega) w
 have hlt0:(i:Int)+(sz:Int)<9223372036854775808:=by omega
 have HC:∀(w':World) (_:Below w.heap.size w w'),w'.cell? ⟨p,0,none⟩=some (.slice oa l.length cap):=fun w' hb=>(hb.cell (p:=⟨p,0,none⟩) hlt).trans hc
 clear hr hw
 go_enter Tryz.func219,Tryz.ntmps219
 go_wp2_with fail
 refine Jnx HL.out ?_
 rintro e w2 ⟨rfl,hb⟩
 have HW2:=Jnv (HW.out.below hb)
 have HB2:=Jnv (XE.of hb hlt)
 have HR2:=Jnv (HR.out.below hb)
 clear hc hpos hlt hf HW HR HL
 have hpos:=HW2.out.pos
 have hlt:=HW2.out.lt
 have hf:=HW2.out.free 1
 have hc:w2.cell? ⟨p,0,none⟩=some (.slice oa l.length cap):=HC _ hb
 clear HC hb
 go_wp2_with fail
 refine Jr (by kernel_rfl) (by kernel_rfl) ?_
 repeat go_big_quiet_step (fail)
 refine wpQuiet_nil ?_
 intro x
 have hcl:∀w',Jj w' oa l.length cap l→Calls Tryz.prog 105 #[.slice (Jp oa i (i+sz) 1) (i+sz-i) (i+sz-i)] w' (J9 w' (((l.take (i+sz)).drop i))):=fun w' h=>
  clone_any _ _ _ _ w' (((h.take (i+sz) hle).shut).cut i (by omega)) (by omega)
 rw[Nat.add_sub_cancel_left] at hcl
 have HCL:=Jnv hcl
 have HX2:=Jnv (HW2.out.later x)
 have HRX:=Jnv (HR2.out.later x)
 have HBX:=Jnv (XE.trans HB2.out (XE.of x.below hlt))
 clear hc hpos hlt hf HW2 HR2 HB2 hcl
 obtain⟨oa2,cap2,hc,-,ha2⟩:=HX2.out.row
 have hpos:=HX2.out.pos
 have hlt:=HX2.out.lt
 have hf:=HX2.out.free 1
 have HS:=Jnv (HX2.out.step (i+sz))
 have HRS:=Jnv (HRX.out.other (p:=⟨p,1,none⟩) (fun a e=>by have:=(ha a e).2;simp only;omega) (.int .i64 ((i+sz:Nat):Int)))
 rw[show((i+sz:Nat):Int)=(i:Int)+sz from rfl] at HS HRS
 clear hc ha2
 go_wp2_with fail
 refine Jnx (HCL.out _ HRS.out) ?_
 rintro e w3 ⟨oa3,cap3,rfl,-,hb3⟩
 have HS3:=Jnv (HS.out.below hb3)
 have HB3:=Jnv (XE.trans (HBX.out.set 1 _) (XE.of hb3 (by simpa using hlt)))
 have hlen:((l.take (i+sz)).drop i).length=sz:=by rw[List.length_drop,List.length_take];omega
 rw[hlen]
 clear HS HBX hb3 hlen HRS HCL HRX hf hpos
 go_wp2_with fail
 go_ret2
 exact⟨_,_,rfl,HS3.out,HB3.out⟩
theorem Xu (b p:Nat)(l:List Int)(i sz:Nat)(w:World)(hw:Rd w b p l i)(hi:i≤l.length)(hgt:l.length<i+sz)(hn:l.length≤1000000)(hs:sz≤1000000):
 Calls Tryz.prog 219 #[.pointer (some ⟨p,0,none⟩),.int .i64 sz] w (JbQ w b p l i 0 10):=by
 have HW:=Jnv hw
 have hlt:=hw.lt
 have HL:=Jnv (Jfi b p l i w hw hi hn)
 have h0:decide ((sz:Int)<0)=false:=by simp
 have h1:decide ((sz:Int)>(l.length:Int)-i)=true:=by simp;omega
 clear hw
 go_enter Tryz.func219,Tryz.ntmps219
 go_wp2_with fail
 refine Jnx HL.out ?_
 rintro e w2 ⟨rfl,hb⟩
 have HW2:=Jnv (HW.out.below hb)
 have HB2:=Jnv (XE.of hb hlt)
 clear hb HL HW
 go_wp2_with fail
 go_ret2
 exact⟨_,_,rfl,HW2.out,HB2.out⟩
theorem XK (b p:Nat)(l:List Int)(i sz:Nat)(w:World)(hw:Rd w b p l i)(h1:1≤sz)(h8:sz≤8)(hle:i+sz≤l.length)(hn:l.length≤1000000):
 Calls Tryz.prog 217 #[.pointer (some ⟨p,0,none⟩),.int .i64 sz] w (Jlk w b p l (i+sz) (.int .u64 (numAt l i sz))):=by
 have H:=Jnv (JkR b p l i sz w hw h1 h8 hle hn)
 clear hw h1 h8 hle hn
 go_enter Tryz.func217,Tryz.ntmps217
 go_wp2_with fail
 refine Jnx H.out ?_
 rintro e w2 ⟨rfl,hr,hb⟩
 have HR:=Jnv hr
 have HB:=Jnv hb
 clear hr hb H
 go_wp2_with fail
 go_ret
 exact⟨rfl,HR.out,HB.out⟩
theorem Zl (b p:Nat)(l:List Int)(i:Nat)(w:World)(hw:Rd w b p l i)(hi:i≤l.length)(hn:l.length≤1000000):
 Calls Tryz.prog 218 #[.pointer (some ⟨p,0,none⟩)] w (JgA w b p l l.length (l.length-i)):=by
 have HW:=Jnv hw
 have hlt:=hw.lt
 have HL:=Jnv (Jfi b p l i w hw hi hn)
 clear hw
 go_enter Tryz.func218,Tryz.ntmps218
 go_wp2_with fail
 refine Jnx HL.out ?_
 rintro e w2 ⟨rfl,hb⟩
 have HB2:=Jnv (XE.of hb hlt)
 have HT:=Jnv (Zk b p l i (l.length-i) w2 (HW.out.below hb) (by omega) hn)
 rw[show(l.length:Int)-i=((l.length-i:Nat):Int) by omega]
 rw[show i+(l.length-i)=l.length by omega] at HT
 clear hb HL HW
 go_wp2_with fail
 refine Jnx HT.out ?_
 rintro e w3 ⟨oa,cap,rfl,hr,hb⟩
 have HR:=Jnv hr
 have HB:=Jnv (HB2.out.trans hb)
 clear hr hb HT HB2
 go_wp2_with fail
 go_ret
 exact⟨_,_,rfl,HR.out,HB.out⟩
structure RS (w:World)(b p:Nat)(l:List Int)(i:Nat)(cs:Array Value)(y:World):Prop where
 rd:Rd y b p l i
 row:y.heap[w.heap.size]? =some (.cells cs 149 (0,0))
 only:XE p w y
 lt:p<w.heap.size
def Qo:Array Value:=JnV
theorem RS.start {w:World}{b p:Nat}{l:List Int}{i:Nat}(h:Rd w b p l i):RS w b p l i Qo (w.alloc (.cells Qo 149)):=
 ⟨h.below (Below.all (Jny _ _) _),heap_alloc_new _ _,XE.of (Below.all (Jny _ _) _) h.lt,h.lt⟩
theorem RS.next {w:World}{b p:Nat}{l:List Int}{i j:Nat}{cs:Array Value}{y y':World}(h:RS w b p l i cs y)(hr:Rd y' b p l j)(ho:XE p y y'):RS w b p l j cs y':=
 ⟨hr,(ho.keep _ (by have:=h.lt;omega) (Jnw h.row).1).trans h.row,h.only.trans ho,h.lt⟩
theorem RS.set {w:World}{b p:Nat}{l:List Int}{i:Nat}{cs cs':Array Value}{y:World}(h:RS w b p l i cs y)(k:Nat)(v:Value)(hc:cs.setIfInBounds k v=cs'):RS w b p l i cs' (y.setCell ⟨w.heap.size,k,none⟩ v):=
 ⟨Rd.above h.rd h.lt _,by rw[heap_setCell_same _ _ k cs _ v h.row,hc],h.only.setNew h.lt k v,h.lt⟩
theorem RS.setRow {w:World}{b p:Nat}{l:List Int}{i:Nat}{cs cs':Array Value}{y:World}(h:RS w b p l i cs y):XE p w (y.setRow w.heap.size cs')∧(y.setRow w.heap.size cs').heap[w.heap.size]? =some (.cells cs' 149 (0,0)):=
 ⟨⟨h.only.below.trans (Jf _ (Nat.le_of_lt h.lt)),fun i hi hl=>(setRow_other _ _ _ _ (by omega)).trans (h.only.keep i hi hl)⟩,Jh h.row⟩
def Z9 (s d q a f wi u:Int)(oO:Option Addr)(nO cO:Nat)(ty cd:Int)(oD:Option Addr)(n cD:Nat):Array Value:=
 #[(),.int .u16 s,.int .u16 d,.int .u32 q,.int .u32 a,f,.int .u16 wi,.int .u16 u,.slice oO nO cO,ty,cd,.slice oD n cD]
def XT (w:World)(p:Nat)(s d q a f wi u:Int)(nO:Nat)(ty cd:Int)(n:Nat)(err:Int):Ending→World→Prop:=fun e w'=>
 (∃oO cO oD cD,e=.returned (.tuple #[.agg (Z9 s d q a f wi u oO nO cO ty cd oD n cD),.int .i64 err]))∧XE p w w'
theorem QI {fn:Func}{q r:Tmp}(h:fn.results=#[.cell q 149,.tmp r])(tmps:Array Value)(w:World)(b:Nat)(cs:Array Value)(v:Value)(t:TypeId)(fr:Nat×Nat)(hp:tmps.getD q undef=.pointer (some ⟨b,0,none⟩))(hq:tmps.getD r undef=v)(hc:w.heap[b]? =some (.cells cs t fr))(hs:cs.size=12):
 (results fn tmps).run Tryz.prog w=.ok (.tuple #[.agg cs,v]) w:=
 QF h tmps w b 12 _ v Tryz.underlying149 rfl JhK hp hq cs (Jb hc hs) hs
theorem JjP (b p:Nat)(l:List Int)(w:World)(hw:Rd w b p l 0)(h4:4≤l.length)(hn:l.length≤1000000):
 Calls Tryz.prog 183 #[.pointer (some ⟨p,0,none⟩)] w (XT w p 0 0 0 0 0 0 0 0 (numAt l 0 1%256) (numAt l 1 1%256) (l.length-4) 0):=by
 have ST:=Jnv (RS.start hw)
 have HN:Hid (∀i sz y,Rd y b p l i→1≤sz→sz≤8→i+sz≤l.length→Calls Tryz.prog 217 #[.pointer (some ⟨p,0,none⟩),.int .i64 sz] y (Jlk y b p l (i+sz) (.int .u64 (numAt l i sz)))):=Jnv (fun i sz y h h1 h8 hle=>XK b p l i sz y h h1 h8 hle hn)
 have HRS:Hid (∀i y,Rd y b p l i→i≤l.length→Calls Tryz.prog 218 #[.pointer (some ⟨p,0,none⟩)] y (JgA y b p l l.length (l.length-i))):=Jnv (fun i y h hi=>Zl b p l i y h hi hn)
 unfold Qo at ST
 clear hw
 go_enter Tryz.func183,Tryz.ntmps183
 go_wp2_with fail
 refine Jnx (HN.out 0 1 _ ST.out.rd (by decide) (by decide) (by omega)) ?_
 rintro e y1 ⟨rfl,hr,ho⟩
 have ST1:=Jnv (ST.out.next hr ho)
 clear hr ho ST
 go_wp2_with fail
 refine Jnx (HN.out 1 1 _ ST1.out.rd (by decide) (by decide) (by omega)) ?_
 rintro e y2 ⟨rfl,hr,ho⟩
 have ST2:=Jnv (ST1.out.next hr ho)
 clear hr ho ST1
 have hrow:=ST2.out.row
 have hc9:y2.cell? ⟨w.heap.size,9,none⟩=some (.int .u8 0):=cell_of_row _ _ 9 _ _ (0,0) hrow
 have hc10:y2.cell? ⟨w.heap.size,10,none⟩=some (.int .u8 0):=cell_of_row _ _ 10 _ _ (0,0) hrow
 have hf9:=frozen_of_row _ _ 9 _ _ hrow
 have hf10:=frozen_of_row _ _ 10 _ _ hrow
 have ST3:=Jnv ((ST2.out.set 9 (.int .u8 (numAt l 0 1%256)) rfl).set 10 (.int .u8 (numAt l 1 1%256)) rfl)
 clear hrow
 go_wp2_with fail
 refine Jnx (HN.out 2 2 _ ST3.out.rd (by decide) (by decide) (by omega)) ?_
 rintro e y4 ⟨rfl,hr,ho⟩
 have ST4:=Jnv (ST3.out.next hr ho)
 clear hr ho ST3 ST2 hc9 hc10 hf9 hf10
 go_wp2_with fail
 refine Jnx (HRS.out 4 _ ST4.out.rd (by omega)) ?_
 rintro e y5 ⟨oD,cD,rfl,hr,ho⟩
 have hst:=ST4.out.next hr ho
 have ST5:Hid (RS w b p l l.length (Jn5 (.int .u8 (numAt l 0 1%256)) (.int .u8 (numAt l 1 1%256))) y5):=Jnv hst
 clear hr ho ST4 hst
 have hrow:=ST5.out.row
 have hc11:y5.cell? ⟨w.heap.size,11,none⟩=some (.slice none 0 0):=cell_of_row _ _ 11 _ _ (0,0) hrow
 have hf11:=frozen_of_row _ _ 11 _ _ hrow
 have hst6:=ST5.out.set 11 (.slice oD (l.length-4) cD) rfl
 have ST6:Hid (RS w b p l l.length (Jof (.int .u8 (numAt l 0 1%256)) (.int .u8 (numAt l 1 1%256)) (.slice oD (l.length-4) cD)) (y5.setCell ⟨w.heap.size,11,none⟩ (.slice oD (l.length-4) cD))):=Jnv hst6
 clear hst6 hrow
 have hpt:Jc (y5.setCell ⟨w.heap.size,11,none⟩ (.slice oD (l.length-4) cD)) w.heap.size 0 12=(Jof (.int .u8 (numAt l 0 1%256)) (.int .u8 (numAt l 1 1%256)) (.slice oD (l.length-4) cD):Array Value):=Jb ST6.out.row rfl
 have hrf:Jl (y5.setCell ⟨w.heap.size,11,none⟩ (.slice oD (l.length-4) cD)) w.heap.size 12=true:=by rw[Jd _ _ _ _ _ ST6.out.row];rfl
 go_wp2_with fail
 have HF:=ST6.out.setRow (cs':=(Jof (.int .u8 (numAt l 0 1%256)) (.int .u8 (numAt l 1 1%256)) (.slice oD (l.length-4) cD)))
 exact bodyPost_ret (QI rfl _ _ w.heap.size _ _ _ (0,0) rfl rfl HF.2 rfl) rfl ⟨⟨_,_,oD,cD,rfl⟩,HF.1⟩
theorem JkS (b p:Nat)(l:List Int)(w:World)(hw:Rd w b p l 0)(h8:8≤l.length)(hn:l.length≤1000000)(N:Nat)(hN:numAt l 4 2=(N:Int))(hN2:N<65536)(h:N<8):
 Calls Tryz.prog 189 #[.pointer (some ⟨p,0,none⟩)] w (XT w p 0 0 0 0 0 0 0 0 0 0 0 51):=by
 have ST0:=Jnv (RS.start hw)
 have HN:Hid (∀i sz y,Rd y b p l i→1≤sz→sz≤8→i+sz≤l.length→Calls Tryz.prog 217 #[.pointer (some ⟨p,0,none⟩),.int .i64 sz] y (Jlk y b p l (i+sz) (.int .u64 (numAt l i sz)))):=Jnv (fun i sz y h h1 h8 hle=>XK b p l i sz y h h1 h8 hle hn)
 have HRS:Hid (∀i y,Rd y b p l i→i≤l.length→Calls Tryz.prog 218 #[.pointer (some ⟨p,0,none⟩)] y (JgA y b p l l.length (l.length-i))):=Jnv (fun i y h hi=>Zl b p l i y h hi hn)
 have HT:Hid (∀i sz y,Rd y b p l i→i+sz≤l.length→Calls Tryz.prog 219 #[.pointer (some ⟨p,0,none⟩),.int .i64 sz] y (JbQ y b p l (i+sz) sz 0)):=Jnv (fun i sz y h hle=>Zk b p l i sz y h hle hn)
 have HTS:Hid (∀i sz y,Rd y b p l i→i≤l.length→l.length<i+sz→sz≤1000000→Calls Tryz.prog 219 #[.pointer (some ⟨p,0,none⟩),.int .i64 sz] y (JbQ y b p l i 0 10)):=Jnv (fun i sz y h hi hgt hs=>Xu b p l i sz y h hi hgt hn hs)
 unfold Qo at ST0
 clear hw
 go_enter Tryz.func189,Tryz.ntmps189
 go_wp2_with fail
 refine Jnx (HN.out 0 2 _ ST0.out.rd (by decide) (by decide) (by omega)) ?_
 rintro e y1 ⟨rfl,hr,ho⟩
 have ST1:=Jnv (ST0.out.next hr ho)
 clear hr ho ST0
 go_wp2_with fail
 refine Jnx (HN.out 2 2 _ ST1.out.rd (by decide) (by decide) (by omega)) ?_
 rintro e y2 ⟨rfl,hr,ho⟩
 have ST2:=Jnv (ST1.out.next hr ho)
 clear hr ho ST1
 have hrow:=ST2.out.row
 have hc1:y2.cell? ⟨w.heap.size,1,none⟩=some (.int .u16 0):=cell_of_row _ _ 1 _ _ (0,0) hrow
 have hc2:y2.cell? ⟨w.heap.size,2,none⟩=some (.int .u16 0):=cell_of_row _ _ 2 _ _ (0,0) hrow
 have hf1:=frozen_of_row _ _ 1 _ _ hrow
 have hf2:=frozen_of_row _ _ 2 _ _ hrow
 have ST3:=Jnv ((ST2.out.set 1 (.int .u16 (numAt l 0 2%65536)) rfl).set 2 (.int .u16 (numAt l 2 2%65536)) rfl)
 clear hrow
 go_wp2_with fail
 refine Jnx (HN.out 4 2 _ ST3.out.rd (by decide) (by decide) (by omega)) ?_
 rintro e y4 ⟨rfl,hr,ho⟩
 have ST4:Hid (RS w b p l 6 (JnS (.int .u16 (numAt l 0 2%65536)) (.int .u16 (numAt l 2 2%65536))) y4):=Jnv (ST3.out.next hr ho)
 clear hr ho ST3 ST2 hc1 hc2 hf1 hf2
 rw[hN]
 clear hN
 have hN0:(0:Int)≤(N:Int):=Int.natCast_nonneg _
 have hN1:(N:Int)<65536:=by omega
 go_wp2_with fail
 refine Jnx (HN.out 6 2 _ ST4.out.rd (by decide) (by decide) (by omega)) ?_
 rintro e y5 ⟨rfl,hr,ho⟩
 have ST5:=Jnv (ST4.out.next hr ho)
 clear hr ho ST4
 have hlt:decide ((N:Int)-8<0)=true:=by simp;omega
 have hrf:Jl y5 w.heap.size 12=true:=by rw[Jd _ _ _ _ _ ST5.out.row];rfl
 go_wp2_with fail
 have HF:=ST5.out.setRow (cs':=JnV)
 exact bodyPost_ret (QI rfl _ _ w.heap.size _ _ _ (0,0) rfl rfl HF.2 rfl) rfl ⟨⟨none,0,none,0,rfl⟩,HF.1⟩
theorem JiA (b p:Nat)(l:List Int)(w:World)(hw:Rd w b p l 0)(h8:8≤l.length)(hn:l.length≤1000000)(N:Nat)(hN:numAt l 4 2=(N:Int))(hN2:N<65536)(h:8≤N)(hs:l.length<N):
 Calls Tryz.prog 189 #[.pointer (some ⟨p,0,none⟩)] w (XT w p 0 0 0 0 0 0 0 0 0 0 0 10):=by
 have ST0:=Jnv (RS.start hw)
 have HN:Hid (∀i sz y,Rd y b p l i→1≤sz→sz≤8→i+sz≤l.length→Calls Tryz.prog 217 #[.pointer (some ⟨p,0,none⟩),.int .i64 sz] y (Jlk y b p l (i+sz) (.int .u64 (numAt l i sz)))):=Jnv (fun i sz y h h1 h8 hle=>XK b p l i sz y h h1 h8 hle hn)
 have HRS:Hid (∀i y,Rd y b p l i→i≤l.length→Calls Tryz.prog 218 #[.pointer (some ⟨p,0,none⟩)] y (JgA y b p l l.length (l.length-i))):=Jnv (fun i y h hi=>Zl b p l i y h hi hn)
 have HT:Hid (∀i sz y,Rd y b p l i→i+sz≤l.length→Calls Tryz.prog 219 #[.pointer (some ⟨p,0,none⟩),.int .i64 sz] y (JbQ y b p l (i+sz) sz 0)):=Jnv (fun i sz y h hle=>Zk b p l i sz y h hle hn)
 have HTS:Hid (∀i sz y,Rd y b p l i→i≤l.length→l.length<i+sz→sz≤1000000→Calls Tryz.prog 219 #[.pointer (some ⟨p,0,none⟩),.int .i64 sz] y (JbQ y b p l i 0 10)):=Jnv (fun i sz y h hi hgt hs=>Xu b p l i sz y h hi hgt hn hs)
 unfold Qo at ST0
 clear hw
 go_enter Tryz.func189,Tryz.ntmps189
 go_wp2_with fail
 refine Jnx (HN.out 0 2 _ ST0.out.rd (by decide) (by decide) (by omega)) ?_
 rintro e y1 ⟨rfl,hr,ho⟩
 have ST1:=Jnv (ST0.out.next hr ho)
 clear hr ho ST0
 go_wp2_with fail
 refine Jnx (HN.out 2 2 _ ST1.out.rd (by decide) (by decide) (by omega)) ?_
 rintro e y2 ⟨rfl,hr,ho⟩
 have ST2:=Jnv (ST1.out.next hr ho)
 clear hr ho ST1
 have hrow:=ST2.out.row
 have hc1:y2.cell? ⟨w.heap.size,1,none⟩=some (.int .u16 0):=cell_of_row _ _ 1 _ _ (0,0) hrow
 have hc2:y2.cell? ⟨w.heap.size,2,none⟩=some (.int .u16 0):=cell_of_row _ _ 2 _ _ (0,0) hrow
 have hf1:=frozen_of_row _ _ 1 _ _ hrow
 have hf2:=frozen_of_row _ _ 2 _ _ hrow
 have ST3:=Jnv ((ST2.out.set 1 (.int .u16 (numAt l 0 2%65536)) rfl).set 2 (.int .u16 (numAt l 2 2%65536)) rfl)
 clear hrow
 go_wp2_with fail
 refine Jnx (HN.out 4 2 _ ST3.out.rd (by decide) (by decide) (by omega)) ?_
 rintro e y4 ⟨rfl,hr,ho⟩
 have ST4:Hid (RS w b p l 6 (JnS (.int .u16 (numAt l 0 2%65536)) (.int .u16 (numAt l 2 2%65536))) y4):=Jnv (ST3.out.next hr ho)
 clear hr ho ST3 ST2 hc1 hc2 hf1 hf2
 rw[hN]
 clear hN
 have hN0:(0:Int)≤(N:Int):=Int.natCast_nonneg _
 have hN1:(N:Int)<65536:=by omega
 go_wp2_with fail
 refine Jnx (HN.out 6 2 _ ST4.out.rd (by decide) (by decide) (by omega)) ?_
 rintro e y5 ⟨rfl,hr,ho⟩
 have ST5:=Jnv (ST4.out.next hr ho)
 clear hr ho ST4
 obtain⟨k,rfl⟩:∃k,N=8+k:=⟨N-8,by omega⟩
 have hk:((8+k:Nat):Int)-8=(k:Int):=by omega
 have hlt:decide ((k:Int)<0)=false:=by simp
 rw[hk]
 go_wp2_with fail
 refine Jnx (HTS.out 8 k _ ST5.out.rd (by omega) (by omega) (by omega)) ?_
 rintro e y6 ⟨oD,cD,rfl,hr,ho⟩
 have ST6:Hid (RS w b p l 8 (JnS (.int .u16 (numAt l 0 2%65536)) (.int .u16 (numAt l 2 2%65536))) y6):=Jnv (ST5.out.next hr ho)
 clear hr ho ST5
 have hrow:=ST6.out.row
 have hc11:y6.cell? ⟨w.heap.size,11,none⟩=some (.slice none 0 0):=cell_of_row _ _ 11 _ _ (0,0) hrow
 have hf11:=frozen_of_row _ _ 11 _ _ hrow
 have ST7:Hid (RS w b p l 8 (Joc (.int .u16 (numAt l 0 2%65536)) (.int .u16 (numAt l 2 2%65536)) (.slice oD 0 cD)) (y6.setCell ⟨w.heap.size,11,none⟩ (.slice oD 0 cD))):=Jnv (ST6.out.set 11 (.slice oD 0 cD) rfl)
 clear hrow
 have hrf:Jl (y6.setCell ⟨w.heap.size,11,none⟩ (.slice oD 0 cD)) w.heap.size 12=true:=by rw[Jd _ _ _ _ _ ST7.out.row];rfl
 go_wp2_with fail
 have HF:=ST7.out.setRow (cs':=JnV)
 exact bodyPost_ret (QI rfl _ _ w.heap.size _ _ _ (0,0) rfl rfl HF.2 rfl) rfl ⟨⟨none,0,none,0,rfl⟩,HF.1⟩
theorem JlP (b p:Nat)(l:List Int)(w:World)(hw:Rd w b p l 0)(h8:8≤l.length)(hn:l.length≤1000000)(N:Nat)(hN:numAt l 4 2=(N:Int))(hN2:N<65536)(h:8≤N)(hs:N≤l.length):
 Calls Tryz.prog 189 #[.pointer (some ⟨p,0,none⟩)] w (XT w p (numAt l 0 2%65536) (numAt l 2 2%65536) 0 0 0 0 0 0 0 0 (N-8) 0):=by
 have ST0:=Jnv (RS.start hw)
 have HN:Hid (∀i sz y,Rd y b p l i→1≤sz→sz≤8→i+sz≤l.length→Calls Tryz.prog 217 #[.pointer (some ⟨p,0,none⟩),.int .i64 sz] y (Jlk y b p l (i+sz) (.int .u64 (numAt l i sz)))):=Jnv (fun i sz y h h1 h8 hle=>XK b p l i sz y h h1 h8 hle hn)
 have HRS:Hid (∀i y,Rd y b p l i→i≤l.length→Calls Tryz.prog 218 #[.pointer (some ⟨p,0,none⟩)] y (JgA y b p l l.length (l.length-i))):=Jnv (fun i y h hi=>Zl b p l i y h hi hn)
 have HT:Hid (∀i sz y,Rd y b p l i→i+sz≤l.length→Calls Tryz.prog 219 #[.pointer (some ⟨p,0,none⟩),.int .i64 sz] y (JbQ y b p l (i+sz) sz 0)):=Jnv (fun i sz y h hle=>Zk b p l i sz y h hle hn)
 have HTS:Hid (∀i sz y,Rd y b p l i→i≤l.length→l.length<i+sz→sz≤1000000→Calls Tryz.prog 219 #[.pointer (some ⟨p,0,none⟩),.int .i64 sz] y (JbQ y b p l i 0 10)):=Jnv (fun i sz y h hi hgt hs=>Xu b p l i sz y h hi hgt hn hs)
 unfold Qo at ST0
 clear hw
 go_enter Tryz.func189,Tryz.ntmps189
 go_wp2_with fail
 refine Jnx (HN.out 0 2 _ ST0.out.rd (by decide) (by decide) (by omega)) ?_
 rintro e y1 ⟨rfl,hr,ho⟩
 have ST1:=Jnv (ST0.out.next hr ho)
 clear hr ho ST0
 go_wp2_with fail
 refine Jnx (HN.out 2 2 _ ST1.out.rd (by decide) (by decide) (by omega)) ?_
 rintro e y2 ⟨rfl,hr,ho⟩
 have ST2:=Jnv (ST1.out.next hr ho)
 clear hr ho ST1
 have hrow:=ST2.out.row
 have hc1:y2.cell? ⟨w.heap.size,1,none⟩=some (.int .u16 0):=cell_of_row _ _ 1 _ _ (0,0) hrow
 have hc2:y2.cell? ⟨w.heap.size,2,none⟩=some (.int .u16 0):=cell_of_row _ _ 2 _ _ (0,0) hrow
 have hf1:=frozen_of_row _ _ 1 _ _ hrow
 have hf2:=frozen_of_row _ _ 2 _ _ hrow
 have ST3:=Jnv ((ST2.out.set 1 (.int .u16 (numAt l 0 2%65536)) rfl).set 2 (.int .u16 (numAt l 2 2%65536)) rfl)
 clear hrow
 go_wp2_with fail
 refine Jnx (HN.out 4 2 _ ST3.out.rd (by decide) (by decide) (by omega)) ?_
 rintro e y4 ⟨rfl,hr,ho⟩
 have ST4:Hid (RS w b p l 6 (JnS (.int .u16 (numAt l 0 2%65536)) (.int .u16 (numAt l 2 2%65536))) y4):=Jnv (ST3.out.next hr ho)
 clear hr ho ST3 ST2 hc1 hc2 hf1 hf2
 rw[hN]
 clear hN
 have hN0:(0:Int)≤(N:Int):=Int.natCast_nonneg _
 have hN1:(N:Int)<65536:=by omega
 go_wp2_with fail
 refine Jnx (HN.out 6 2 _ ST4.out.rd (by decide) (by decide) (by omega)) ?_
 rintro e y5 ⟨rfl,hr,ho⟩
 have ST5:=Jnv (ST4.out.next hr ho)
 clear hr ho ST4
 obtain⟨k,rfl⟩:∃k,N=8+k:=⟨N-8,by omega⟩
 have hk:((8+k:Nat):Int)-8=(k:Int):=by omega
 have hlt:decide ((k:Int)<0)=false:=by simp
 rw[hk]
 go_wp2_with fail
 refine Jnx (HT.out 8 k _ ST5.out.rd (by omega)) ?_
 rintro e y6 ⟨oD,cD,rfl,hr,ho⟩
 have ST6:Hid (RS w b p l (8+k) (JnS (.int .u16 (numAt l 0 2%65536)) (.int .u16 (numAt l 2 2%65536))) y6):=Jnv (ST5.out.next hr ho)
 clear hr ho ST5
 have hrow:=ST6.out.row
 have hc11:y6.cell? ⟨w.heap.size,11,none⟩=some (.slice none 0 0):=cell_of_row _ _ 11 _ _ (0,0) hrow
 have hf11:=frozen_of_row _ _ 11 _ _ hrow
 have ST7:Hid (RS w b p l (8+k) (Joc (.int .u16 (numAt l 0 2%65536)) (.int .u16 (numAt l 2 2%65536)) (.slice oD k cD)) (y6.setCell ⟨w.heap.size,11,none⟩ (.slice oD k cD))):=Jnv (ST6.out.set 11 (.slice oD k cD) rfl)
 clear hrow
 have hpt:Jc (y6.setCell ⟨w.heap.size,11,none⟩ (.slice oD k cD)) w.heap.size 0 12=(Joc (.int .u16 (numAt l 0 2%65536)) (.int .u16 (numAt l 2 2%65536)) (.slice oD k cD):Array Value):=Jb ST7.out.row rfl
 have hrf:Jl (y6.setCell ⟨w.heap.size,11,none⟩ (.slice oD k cD)) w.heap.size 12=true:=by rw[Jd _ _ _ _ _ ST7.out.row];rfl
 go_wp2_with fail
 have HF:=ST7.out.setRow (cs':=(Joc (.int .u16 (numAt l 0 2%65536)) (.int .u16 (numAt l 2 2%65536)) (.slice oD k cD)))
 rw[show 8+k-8=k by omega]
 exact bodyPost_ret (QI rfl _ _ w.heap.size _ _ _ (0,0) rfl rfl HF.2 rfl) rfl ⟨⟨none,0,oD,cD,rfl⟩,HF.1⟩
theorem JkT (b p:Nat)(l:List Int)(w:World)(hw:Rd w b p l 0)(h20:20≤l.length)(hn:l.length≤1000000)(V:Nat)(hV:numAt l 12 1=(V:Int))(hV2:V<256)(h:V/16<5):
 Calls Tryz.prog 186 #[.pointer (some ⟨p,0,none⟩)] w (XT w p 0 0 0 0 0 0 0 0 0 0 0 51):=by
 have ST0:=Jnv (RS.start hw)
 have HN:Hid (∀i sz y,Rd y b p l i→1≤sz→sz≤8→i+sz≤l.length→Calls Tryz.prog 217 #[.pointer (some ⟨p,0,none⟩),.int .i64 sz] y (Jlk y b p l (i+sz) (.int .u64 (numAt l i sz)))):=Jnv (fun i sz y h h1 h8 hle=>XK b p l i sz y h h1 h8 hle hn)
 have HRS:Hid (∀i y,Rd y b p l i→i≤l.length→Calls Tryz.prog 218 #[.pointer (some ⟨p,0,none⟩)] y (JgA y b p l l.length (l.length-i))):=Jnv (fun i y h hi=>Zl b p l i y h hi hn)
 have HT:Hid (∀i sz y,Rd y b p l i→i+sz≤l.length→Calls Tryz.prog 219 #[.pointer (some ⟨p,0,none⟩),.int .i64 sz] y (JbQ y b p l (i+sz) sz 0)):=Jnv (fun i sz y h hle=>Zk b p l i sz y h hle hn)
 have HTS:Hid (∀i sz y,Rd y b p l i→i≤l.length→l.length<i+sz→sz≤1000000→Calls Tryz.prog 219 #[.pointer (some ⟨p,0,none⟩),.int .i64 sz] y (JbQ y b p l i 0 10)):=Jnv (fun i sz y h hi hgt hs=>Xu b p l i sz y h hi hgt hn hs)
 unfold Qo at ST0
 clear hw
 go_enter Tryz.func186,Tryz.ntmps186
 go_wp2_with fail
 refine Jnx (HN.out 0 2 _ ST0.out.rd (by decide) (by decide) (by omega)) ?_
 rintro e y1 ⟨rfl,hr,ho⟩
 have ST1:=Jnv (ST0.out.next hr ho)
 clear hr ho ST0
 go_wp2_with fail
 refine Jnx (HN.out 2 2 _ ST1.out.rd (by decide) (by decide) (by omega)) ?_
 rintro e y2 ⟨rfl,hr,ho⟩
 have ST2:=Jnv (ST1.out.next hr ho)
 clear hr ho ST1
 have hrow:=ST2.out.row
 have hc1:y2.cell? ⟨w.heap.size,1,none⟩=some (.int .u16 0):=cell_of_row _ _ 1 _ _ (0,0) hrow
 have hf1:=frozen_of_row _ _ 1 _ _ hrow
 have hc2:y2.cell? ⟨w.heap.size,2,none⟩=some (.int .u16 0):=cell_of_row _ _ 2 _ _ (0,0) hrow
 have hf2:=frozen_of_row _ _ 2 _ _ hrow
 have ST2b:=Jnv ((ST2.out.set 1 (.int .u16 (numAt l 0 2%65536)) rfl).set 2 (.int .u16 (numAt l 2 2%65536)) rfl)
 clear hrow
 go_wp2_with fail
 refine Jnx (HN.out 4 4 _ ST2b.out.rd (by decide) (by decide) (by omega)) ?_
 rintro e y3 ⟨rfl,hr,ho⟩
 have ST3:Hid (RS w b p l 8 (JnS (.int .u16 (numAt l 0 2%65536)) (.int .u16 (numAt l 2 2%65536))) y3):=Jnv (ST2b.out.next hr ho)
 clear hr ho ST2b ST2 hc1 hf1 hc2 hf2
 go_wp2_with fail
 refine Jnx (HN.out 8 4 _ ST3.out.rd (by decide) (by decide) (by omega)) ?_
 rintro e y4 ⟨rfl,hr,ho⟩
 have ST4:=Jnv (ST3.out.next hr ho)
 clear hr ho ST3
 have hrow:=ST4.out.row
 have hc3:y4.cell? ⟨w.heap.size,3,none⟩=some (.int .u32 0):=cell_of_row _ _ 3 _ _ (0,0) hrow
 have hf3:=frozen_of_row _ _ 3 _ _ hrow
 have hc4:y4.cell? ⟨w.heap.size,4,none⟩=some (.int .u32 0):=cell_of_row _ _ 4 _ _ (0,0) hrow
 have hf4:=frozen_of_row _ _ 4 _ _ hrow
 have ST4b:=Jnv ((ST4.out.set 3 (.int .u32 (numAt l 4 4%4294967296)) rfl).set 4 (.int .u32 (numAt l 8 4%4294967296)) rfl)
 clear hrow
 go_wp2_with fail
 refine Jnx (HN.out 12 1 _ ST4b.out.rd (by decide) (by decide) (by omega)) ?_
 rintro e y5 ⟨rfl,hr,ho⟩
 have ST5:Hid (RS w b p l 13 (Jog (.int .u16 (numAt l 0 2%65536)) (.int .u16 (numAt l 2 2%65536)) (.int .u32 (numAt l 4 4%4294967296)) (.int .u32 (numAt l 8 4%4294967296))) y5):=Jnv (ST4b.out.next hr ho)
 clear hr ho ST4b ST4 hc3 hf3 hc4 hf4
 rw[hV]
 clear hV
 have hV0:(0:Int)≤(V:Int):=Int.natCast_nonneg _
 have hV1:(V:Int)<256:=by omega
 go_wp2_with fail
 refine Jnx (HN.out 13 1 _ ST5.out.rd (by decide) (by decide) (by omega)) ?_
 rintro e y6 ⟨rfl,hr,ho⟩
 have ST6:=Jnv (ST5.out.next hr ho)
 clear hr ho ST5
 have hrow:=ST6.out.row
 have hc5:y6.cell? ⟨w.heap.size,5,none⟩=some (.int .u8 0):=cell_of_row _ _ 5 _ _ (0,0) hrow
 have hf5:=frozen_of_row _ _ 5 _ _ hrow
 have ST6b:=Jnv (ST6.out.set 5 (.int .u8 (numAt l 13 1%256)) rfl)
 clear hrow
 go_wp2_with fail
 refine Jnx (HN.out 14 2 _ ST6b.out.rd (by decide) (by decide) (by omega)) ?_
 rintro e y7 ⟨rfl,hr,ho⟩
 have ST7:Hid (RS w b p l 16 (Joh (.int .u16 (numAt l 0 2%65536)) (.int .u16 (numAt l 2 2%65536)) (.int .u32 (numAt l 4 4%4294967296)) (.int .u32 (numAt l 8 4%4294967296)) (.int .u8 (numAt l 13 1%256))) y7):=Jnv (ST6b.out.next hr ho)
 clear hr ho ST6b ST6 hc5 hf5
 have hrow:=ST7.out.row
 have hc6:y7.cell? ⟨w.heap.size,6,none⟩=some (.int .u16 0):=cell_of_row _ _ 6 _ _ (0,0) hrow
 have hf6:=frozen_of_row _ _ 6 _ _ hrow
 have ST7b:=Jnv (ST7.out.set 6 (.int .u16 (numAt l 14 2%65536)) rfl)
 clear hrow
 go_wp2_with fail
 refine Jnx (HN.out 16 2 _ ST7b.out.rd (by decide) (by decide) (by omega)) ?_
 rintro e y8 ⟨rfl,hr,ho⟩
 have ST8:Hid (RS w b p l 18 (Joi (.int .u16 (numAt l 0 2%65536)) (.int .u16 (numAt l 2 2%65536)) (.int .u32 (numAt l 4 4%4294967296)) (.int .u32 (numAt l 8 4%4294967296)) (.int .u8 (numAt l 13 1%256)) (.int .u16 (numAt l 14 2%65536))) y8):=Jnv (ST7b.out.next hr ho)
 clear hr ho ST7b ST7 hc6 hf6
 go_wp2_with fail
 refine Jnx (HN.out 18 2 _ ST8.out.rd (by decide) (by decide) (by omega)) ?_
 rintro e y9 ⟨rfl,hr,ho⟩
 have ST9:=Jnv (ST8.out.next hr ho)
 clear hr ho ST8
 have hrow:=ST9.out.row
 have hc7:y9.cell? ⟨w.heap.size,7,none⟩=some (.int .u16 0):=cell_of_row _ _ 7 _ _ (0,0) hrow
 have hf7:=frozen_of_row _ _ 7 _ _ hrow
 have ST9b:=Jnv (ST9.out.set 7 (.int .u16 (numAt l 18 2%65536)) rfl)
 clear hrow
 have ST10:Hid (RS w b p l 20 (Jn6 (.int .u16 (numAt l 0 2%65536)) (.int .u16 (numAt l 2 2%65536)) (.int .u32 (numAt l 4 4%4294967296)) (.int .u32 (numAt l 8 4%4294967296)) (.int .u8 (numAt l 13 1%256)) (.int .u16 (numAt l 14 2%65536)) (.int .u16 (numAt l 18 2%65536))) (y9.setCell ⟨w.heap.size,7,none⟩ (.int .u16 (IntKind.u16.wrap (numAt l 18 2))))):=Jnv ST9b.out
 clear ST9b
 have hlt:decide ((V:Int)/16*4-20<0)=true:=by simp;omega
 have hrf:Jl (y9.setCell ⟨w.heap.size,7,none⟩ (.int .u16 (IntKind.u16.wrap (numAt l 18 2)))) w.heap.size 12=true:=by rw[Jd _ _ _ _ _ ST10.out.row];rfl
 go_wp2_with fail
 have HF:=ST10.out.setRow (cs':=JnV)
 exact bodyPost_ret (QI rfl _ _ w.heap.size _ _ _ (0,0) rfl rfl HF.2 rfl) rfl ⟨⟨none,0,none,0,rfl⟩,HF.1⟩
theorem JiB (b p:Nat)(l:List Int)(w:World)(hw:Rd w b p l 0)(h20:20≤l.length)(hn:l.length≤1000000)(V:Nat)(hV:numAt l 12 1=(V:Int))(hV2:V<256)(h:5≤V/16)(hs:l.length<V/16*4):
 Calls Tryz.prog 186 #[.pointer (some ⟨p,0,none⟩)] w (XT w p 0 0 0 0 0 0 0 0 0 0 0 10):=by
 have ST0:=Jnv (RS.start hw)
 have HN:Hid (∀i sz y,Rd y b p l i→1≤sz→sz≤8→i+sz≤l.length→Calls Tryz.prog 217 #[.pointer (some ⟨p,0,none⟩),.int .i64 sz] y (Jlk y b p l (i+sz) (.int .u64 (numAt l i sz)))):=Jnv (fun i sz y h h1 h8 hle=>XK b p l i sz y h h1 h8 hle hn)
 have HRS:Hid (∀i y,Rd y b p l i→i≤l.length→Calls Tryz.prog 218 #[.pointer (some ⟨p,0,none⟩)] y (JgA y b p l l.length (l.length-i))):=Jnv (fun i y h hi=>Zl b p l i y h hi hn)
 have HT:Hid (∀i sz y,Rd y b p l i→i+sz≤l.length→Calls Tryz.prog 219 #[.pointer (some ⟨p,0,none⟩),.int .i64 sz] y (JbQ y b p l (i+sz) sz 0)):=Jnv (fun i sz y h hle=>Zk b p l i sz y h hle hn)
 have HTS:Hid (∀i sz y,Rd y b p l i→i≤l.length→l.length<i+sz→sz≤1000000→Calls Tryz.prog 219 #[.pointer (some ⟨p,0,none⟩),.int .i64 sz] y (JbQ y b p l i 0 10)):=Jnv (fun i sz y h hi hgt hs=>Xu b p l i sz y h hi hgt hn hs)
 unfold Qo at ST0
 clear hw
 go_enter Tryz.func186,Tryz.ntmps186
 go_wp2_with fail
 refine Jnx (HN.out 0 2 _ ST0.out.rd (by decide) (by decide) (by omega)) ?_
 rintro e y1 ⟨rfl,hr,ho⟩
 have ST1:=Jnv (ST0.out.next hr ho)
 clear hr ho ST0
 go_wp2_with fail
 refine Jnx (HN.out 2 2 _ ST1.out.rd (by decide) (by decide) (by omega)) ?_
 rintro e y2 ⟨rfl,hr,ho⟩
 have ST2:=Jnv (ST1.out.next hr ho)
 clear hr ho ST1
 have hrow:=ST2.out.row
 have hc1:y2.cell? ⟨w.heap.size,1,none⟩=some (.int .u16 0):=cell_of_row _ _ 1 _ _ (0,0) hrow
 have hf1:=frozen_of_row _ _ 1 _ _ hrow
 have hc2:y2.cell? ⟨w.heap.size,2,none⟩=some (.int .u16 0):=cell_of_row _ _ 2 _ _ (0,0) hrow
 have hf2:=frozen_of_row _ _ 2 _ _ hrow
 have ST2b:=Jnv ((ST2.out.set 1 (.int .u16 (numAt l 0 2%65536)) rfl).set 2 (.int .u16 (numAt l 2 2%65536)) rfl)
 clear hrow
 go_wp2_with fail
 refine Jnx (HN.out 4 4 _ ST2b.out.rd (by decide) (by decide) (by omega)) ?_
 rintro e y3 ⟨rfl,hr,ho⟩
 have ST3:Hid (RS w b p l 8 (JnS (.int .u16 (numAt l 0 2%65536)) (.int .u16 (numAt l 2 2%65536))) y3):=Jnv (ST2b.out.next hr ho)
 clear hr ho ST2b ST2 hc1 hf1 hc2 hf2
 go_wp2_with fail
 refine Jnx (HN.out 8 4 _ ST3.out.rd (by decide) (by decide) (by omega)) ?_
 rintro e y4 ⟨rfl,hr,ho⟩
 have ST4:=Jnv (ST3.out.next hr ho)
 clear hr ho ST3
 have hrow:=ST4.out.row
 have hc3:y4.cell? ⟨w.heap.size,3,none⟩=some (.int .u32 0):=cell_of_row _ _ 3 _ _ (0,0) hrow
 have hf3:=frozen_of_row _ _ 3 _ _ hrow
 have hc4:y4.cell? ⟨w.heap.size,4,none⟩=some (.int .u32 0):=cell_of_row _ _ 4 _ _ (0,0) hrow
 have hf4:=frozen_of_row _ _ 4 _ _ hrow
 have ST4b:=Jnv ((ST4.out.set 3 (.int .u32 (numAt l 4 4%4294967296)) rfl).set 4 (.int .u32 (numAt l 8 4%4294967296)) rfl)
 clear hrow
 go_wp2_with fail
 refine Jnx (HN.out 12 1 _ ST4b.out.rd (by decide) (by decide) (by omega)) ?_
 rintro e y5 ⟨rfl,hr,ho⟩
 have ST5:Hid (RS w b p l 13 (Jog (.int .u16 (numAt l 0 2%65536)) (.int .u16 (numAt l 2 2%65536)) (.int .u32 (numAt l 4 4%4294967296)) (.int .u32 (numAt l 8 4%4294967296))) y5):=Jnv (ST4b.out.next hr ho)
 clear hr ho ST4b ST4 hc3 hf3 hc4 hf4
 rw[hV]
 clear hV
 have hV0:(0:Int)≤(V:Int):=Int.natCast_nonneg _
 have hV1:(V:Int)<256:=by omega
 go_wp2_with fail
 refine Jnx (HN.out 13 1 _ ST5.out.rd (by decide) (by decide) (by omega)) ?_
 rintro e y6 ⟨rfl,hr,ho⟩
 have ST6:=Jnv (ST5.out.next hr ho)
 clear hr ho ST5
 have hrow:=ST6.out.row
 have hc5:y6.cell? ⟨w.heap.size,5,none⟩=some (.int .u8 0):=cell_of_row _ _ 5 _ _ (0,0) hrow
 have hf5:=frozen_of_row _ _ 5 _ _ hrow
 have ST6b:=Jnv (ST6.out.set 5 (.int .u8 (numAt l 13 1%256)) rfl)
 clear hrow
 go_wp2_with fail
 refine Jnx (HN.out 14 2 _ ST6b.out.rd (by decide) (by decide) (by omega)) ?_
 rintro e y7 ⟨rfl,hr,ho⟩
 have ST7:Hid (RS w b p l 16 (Joh (.int .u16 (numAt l 0 2%65536)) (.int .u16 (numAt l 2 2%65536)) (.int .u32 (numAt l 4 4%4294967296)) (.int .u32 (numAt l 8 4%4294967296)) (.int .u8 (numAt l 13 1%256))) y7):=Jnv (ST6b.out.next hr ho)
 clear hr ho ST6b ST6 hc5 hf5
 have hrow:=ST7.out.row
 have hc6:y7.cell? ⟨w.heap.size,6,none⟩=some (.int .u16 0):=cell_of_row _ _ 6 _ _ (0,0) hrow
 have hf6:=frozen_of_row _ _ 6 _ _ hrow
 have ST7b:=Jnv (ST7.out.set 6 (.int .u16 (numAt l 14 2%65536)) rfl)
 clear hrow
 go_wp2_with fail
 refine Jnx (HN.out 16 2 _ ST7b.out.rd (by decide) (by decide) (by omega)) ?_
 rintro e y8 ⟨rfl,hr,ho⟩
 have ST8:Hid (RS w b p l 18 (Joi (.int .u16 (numAt l 0 2%65536)) (.int .u16 (numAt l 2 2%65536)) (.int .u32 (numAt l 4 4%4294967296)) (.int .u32 (numAt l 8 4%4294967296)) (.int .u8 (numAt l 13 1%256)) (.int .u16 (numAt l 14 2%65536))) y8):=Jnv (ST7b.out.next hr ho)
 clear hr ho ST7b ST7 hc6 hf6
 go_wp2_with fail
 refine Jnx (HN.out 18 2 _ ST8.out.rd (by decide) (by decide) (by omega)) ?_
 rintro e y9 ⟨rfl,hr,ho⟩
 have ST9:=Jnv (ST8.out.next hr ho)
 clear hr ho ST8
 have hrow:=ST9.out.row
 have hc7:y9.cell? ⟨w.heap.size,7,none⟩=some (.int .u16 0):=cell_of_row _ _ 7 _ _ (0,0) hrow
 have hf7:=frozen_of_row _ _ 7 _ _ hrow
 have ST9b:=Jnv (ST9.out.set 7 (.int .u16 (numAt l 18 2%65536)) rfl)
 clear hrow
 have ST10:Hid (RS w b p l 20 (Jn6 (.int .u16 (numAt l 0 2%65536)) (.int .u16 (numAt l 2 2%65536)) (.int .u32 (numAt l 4 4%4294967296)) (.int .u32 (numAt l 8 4%4294967296)) (.int .u8 (numAt l 13 1%256)) (.int .u16 (numAt l 14 2%65536)) (.int .u16 (numAt l 18 2%65536))) (y9.setCell ⟨w.heap.size,7,none⟩ (.int .u16 (IntKind.u16.wrap (numAt l 18 2))))):=Jnv ST9b.out
 clear ST9b
 obtain⟨k,hkk⟩:∃k:Nat,k=V/16*4-20:=⟨_,rfl⟩
 have hk:(V:Int)/16*4-20=(k:Int):=by omega
 have hlt:decide ((k:Int)<0)=false:=by simp
 rw[hk]
 have HKK:=Jnv hkk
 have hk20:20+k=V/16*4:=by omega
 have HK20:=Jnv hk20
 have hkl:k≤1000000:=by omega
 clear hk hkk hk20
 go_wp2_with fail
 refine Jnx (HTS.out 20 k _ ST10.out.rd (by omega) (by have:=HK20.out;omega) hkl) ?_
 rintro e y11 ⟨oO,cO,rfl,hr,ho⟩
 have ST11:Hid (RS w b p l 20 (Jn6 (.int .u16 (numAt l 0 2%65536)) (.int .u16 (numAt l 2 2%65536)) (.int .u32 (numAt l 4 4%4294967296)) (.int .u32 (numAt l 8 4%4294967296)) (.int .u8 (numAt l 13 1%256)) (.int .u16 (numAt l 14 2%65536)) (.int .u16 (numAt l 18 2%65536))) y11):=Jnv (ST10.out.next hr ho)
 clear hr ho ST10
 have hrow:=ST11.out.row
 have hc8:y11.cell? ⟨w.heap.size,8,none⟩=some (.slice none 0 0):=cell_of_row _ _ 8 _ _ (0,0) hrow
 have hf8:=frozen_of_row _ _ 8 _ _ hrow
 have ST12:Hid (RS w b p l 20 (Joj (.int .u16 (numAt l 0 2%65536)) (.int .u16 (numAt l 2 2%65536)) (.int .u32 (numAt l 4 4%4294967296)) (.int .u32 (numAt l 8 4%4294967296)) (.int .u8 (numAt l 13 1%256)) (.int .u16 (numAt l 14 2%65536)) (.int .u16 (numAt l 18 2%65536)) (.slice oO 0 cO)) (y11.setCell ⟨w.heap.size,8,none⟩ (.slice oO 0 cO))):=Jnv (ST11.out.set 8 (.slice oO 0 cO) rfl)
 clear hrow
 have hrf:Jl (y11.setCell ⟨w.heap.size,8,none⟩ (.slice oO 0 cO)) w.heap.size 12=true:=by rw[Jd _ _ _ _ _ ST12.out.row];rfl
 go_wp2_with fail
 have HF:=ST12.out.setRow (cs':=JnV)
 exact bodyPost_ret (QI rfl _ _ w.heap.size _ _ _ (0,0) rfl rfl HF.2 rfl) rfl ⟨⟨none,0,none,0,rfl⟩,HF.1⟩
theorem JlQ (b p:Nat)(l:List Int)(w:World)(hw:Rd w b p l 0)(h20:20≤l.length)(hn:l.length≤1000000)(V:Nat)(hV:numAt l 12 1=(V:Int))(hV2:V<256)(h:5≤V/16)(hs:V/16*4≤l.length):
 Calls Tryz.prog 186 #[.pointer (some ⟨p,0,none⟩)] w (XT w p (numAt l 0 2%65536) (numAt l 2 2%65536) (numAt l 4 4%4294967296) (numAt l 8 4%4294967296) (numAt l 13 1%256) (numAt l 14 2%65536) (numAt l 18 2%65536) (V/16*4-20) 0 0 (l.length-V/16*4) 0):=by
 have ST0:=Jnv (RS.start hw)
 have HN:Hid (∀i sz y,Rd y b p l i→1≤sz→sz≤8→i+sz≤l.length→Calls Tryz.prog 217 #[.pointer (some ⟨p,0,none⟩),.int .i64 sz] y (Jlk y b p l (i+sz) (.int .u64 (numAt l i sz)))):=Jnv (fun i sz y h h1 h8 hle=>XK b p l i sz y h h1 h8 hle hn)
 have HRS:Hid (∀i y,Rd y b p l i→i≤l.length→Calls Tryz.prog 218 #[.pointer (some ⟨p,0,none⟩)] y (JgA y b p l l.length (l.length-i))):=Jnv (fun i y h hi=>Zl b p l i y h hi hn)
 have HT:Hid (∀i sz y,Rd y b p l i→i+sz≤l.length→Calls Tryz.prog 219 #[.pointer (some ⟨p,0,none⟩),.int .i64 sz] y (JbQ y b p l (i+sz) sz 0)):=Jnv (fun i sz y h hle=>Zk b p l i sz y h hle hn)
 have HTS:Hid (∀i sz y,Rd y b p l i→i≤l.length→l.length<i+sz→sz≤1000000→Calls Tryz.prog 219 #[.pointer (some ⟨p,0,none⟩),.int .i64 sz] y (JbQ y b p l i 0 10)):=Jnv (fun i sz y h hi hgt hs=>Xu b p l i sz y h hi hgt hn hs)
 unfold Qo at ST0
 clear hw
 go_enter Tryz.func186,Tryz.ntmps186
 go_wp2_with fail
 refine Jnx (HN.out 0 2 _ ST0.out.rd (by decide) (by decide) (by omega)) ?_
 rintro e y1 ⟨rfl,hr,ho⟩
 have ST1:=Jnv (ST0.out.next hr ho)
 clear hr ho ST0
 go_wp2_with fail
 refine Jnx (HN.out 2 2 _ ST1.out.rd (by decide) (by decide) (by omega)) ?_
 rintro e y2 ⟨rfl,hr,ho⟩
 have ST2:=Jnv (ST1.out.next hr ho)
 clear hr ho ST1
 have hrow:=ST2.out.row
 have hc1:y2.cell? ⟨w.heap.size,1,none⟩=some (.int .u16 0):=cell_of_row _ _ 1 _ _ (0,0) hrow
 have hf1:=frozen_of_row _ _ 1 _ _ hrow
 have hc2:y2.cell? ⟨w.heap.size,2,none⟩=some (.int .u16 0):=cell_of_row _ _ 2 _ _ (0,0) hrow
 have hf2:=frozen_of_row _ _ 2 _ _ hrow
 have ST2b:=Jnv ((ST2.out.set 1 (.int .u16 (numAt l 0 2%65536)) rfl).set 2 (.int .u16 (numAt l 2 2%65536)) rfl)
 clear hrow
 go_wp2_with fail
 refine Jnx (HN.out 4 4 _ ST2b.out.rd (by decide) (by decide) (by omega)) ?_
 rintro e y3 ⟨rfl,hr,ho⟩
 have ST3:Hid (RS w b p l 8 (JnS (.int .u16 (numAt l 0 2%65536)) (.int .u16 (numAt l 2 2%65536))) y3):=Jnv (ST2b.out.next hr ho)
 clear hr ho ST2b ST2 hc1 hf1 hc2 hf2
 go_wp2_with fail
 refine Jnx (HN.out 8 4 _ ST3.out.rd (by decide) (by decide) (by omega)) ?_
 rintro e y4 ⟨rfl,hr,ho⟩
 have ST4:=Jnv (ST3.out.next hr ho)
 clear hr ho ST3
 have hrow:=ST4.out.row
 have hc3:y4.cell? ⟨w.heap.size,3,none⟩=some (.int .u32 0):=cell_of_row _ _ 3 _ _ (0,0) hrow
 have hf3:=frozen_of_row _ _ 3 _ _ hrow
 have hc4:y4.cell? ⟨w.heap.size,4,none⟩=some (.int .u32 0):=cell_of_row _ _ 4 _ _ (0,0) hrow
 have hf4:=frozen_of_row _ _ 4 _ _ hrow
 have ST4b:=Jnv ((ST4.out.set 3 (.int .u32 (numAt l 4 4%4294967296)) rfl).set 4 (.int .u32 (numAt l 8 4%4294967296)) rfl)
 clear hrow
 go_wp2_with fail
 refine Jnx (HN.out 12 1 _ ST4b.out.rd (by decide) (by decide) (by omega)) ?_
 rintro e y5 ⟨rfl,hr,ho⟩
 have ST5:Hid (RS w b p l 13 (Jog (.int .u16 (numAt l 0 2%65536)) (.int .u16 (numAt l 2 2%65536)) (.int .u32 (numAt l 4 4%4294967296)) (.int .u32 (numAt l 8 4%4294967296))) y5):=Jnv (ST4b.out.next hr ho)
 clear hr ho ST4b ST4 hc3 hf3 hc4 hf4
 rw[hV]
 clear hV
 have hV0:(0:Int)≤(V:Int):=Int.natCast_nonneg _
 have hV1:(V:Int)<256:=by omega
 go_wp2_with fail
 refine Jnx (HN.out 13 1 _ ST5.out.rd (by decide) (by decide) (by omega)) ?_
 rintro e y6 ⟨rfl,hr,ho⟩
 have ST6:=Jnv (ST5.out.next hr ho)
 clear hr ho ST5
 have hrow:=ST6.out.row
 have hc5:y6.cell? ⟨w.heap.size,5,none⟩=some (.int .u8 0):=cell_of_row _ _ 5 _ _ (0,0) hrow
 have hf5:=frozen_of_row _ _ 5 _ _ hrow
 have ST6b:=Jnv (ST6.out.set 5 (.int .u8 (numAt l 13 1%256)) rfl)
 clear hrow
 go_wp2_with fail
 refine Jnx (HN.out 14 2 _ ST6b.out.rd (by decide) (by decide) (by omega)) ?_
 rintro e y7 ⟨rfl,hr,ho⟩
 have ST7:Hid (RS w b p l 16 (Joh (.int .u16 (numAt l 0 2%65536)) (.int .u16 (numAt l 2 2%65536)) (.int .u32 (numAt l 4 4%4294967296)) (.int .u32 (numAt l 8 4%4294967296)) (.int .u8 (numAt l 13 1%256))) y7):=Jnv (ST6b.out.next hr ho)
 clear hr ho ST6b ST6 hc5 hf5
 have hrow:=ST7.out.row
 have hc6:y7.cell? ⟨w.heap.size,6,none⟩=some (.int .u16 0):=cell_of_row _ _ 6 _ _ (0,0) hrow
 have hf6:=frozen_of_row _ _ 6 _ _ hrow
 have ST7b:=Jnv (ST7.out.set 6 (.int .u16 (numAt l 14 2%65536)) rfl)
 clear hrow
 go_wp2_with fail
 refine Jnx (HN.out 16 2 _ ST7b.out.rd (by decide) (by decide) (by omega)) ?_
 rintro e y8 ⟨rfl,hr,ho⟩
 have ST8:Hid (RS w b p l 18 (Joi (.int .u16 (numAt l 0 2%65536)) (.int .u16 (numAt l 2 2%65536)) (.int .u32 (numAt l 4 4%4294967296)) (.int .u32 (numAt l 8 4%4294967296)) (.int .u8 (numAt l 13 1%256)) (.int .u16 (numAt l 14 2%65536))) y8):=Jnv (ST7b.out.next hr ho)
 clear hr ho ST7b ST7 hc6 hf6
 go_wp2_with fail
 refine Jnx (HN.out 18 2 _ ST8.out.rd (by decide) (by decide) (by omega)) ?_
 rintro e y9 ⟨rfl,hr,ho⟩
 have ST9:=Jnv (ST8.out.next hr ho)
 clear hr ho ST8
 have hrow:=ST9.out.row
 have hc7:y9.cell? ⟨w.heap.size,7,none⟩=some (.int .u16 0):=cell_of_row _ _ 7 _ _ (0,0) hrow
 have hf7:=frozen_of_row _ _ 7 _ _ hrow
 have ST9b:=Jnv (ST9.out.set 7 (.int .u16 (numAt l 18 2%65536)) rfl)
 clear hrow
 have ST10:Hid (RS w b p l 20 (Jn6 (.int .u16 (numAt l 0 2%65536)) (.int .u16 (numAt l 2 2%65536)) (.int .u32 (numAt l 4 4%4294967296)) (.int .u32 (numAt l 8 4%4294967296)) (.int .u8 (numAt l 13 1%256)) (.int .u16 (numAt l 14 2%65536)) (.int .u16 (numAt l 18 2%65536))) (y9.setCell ⟨w.heap.size,7,none⟩ (.int .u16 (IntKind.u16.wrap (numAt l 18 2))))):=Jnv ST9b.out
 clear ST9b
 obtain⟨k,hkk⟩:∃k:Nat,k=V/16*4-20:=⟨_,rfl⟩
 have hk:(V:Int)/16*4-20=(k:Int):=by omega
 have hlt:decide ((k:Int)<0)=false:=by simp
 rw[hk]
 have HKK:=Jnv hkk
 have hk20:20+k=V/16*4:=by omega
 have HK20:=Jnv hk20
 have hkl:k≤1000000:=by omega
 clear hk hkk hk20
 go_wp2_with fail
 refine Jnx (HT.out 20 k _ ST10.out.rd (by have:=HK20.out;omega)) ?_
 rintro e y11 ⟨oO,cO,rfl,hr,ho⟩
 have ST11:Hid (RS w b p l (20+k) (Jn6 (.int .u16 (numAt l 0 2%65536)) (.int .u16 (numAt l 2 2%65536)) (.int .u32 (numAt l 4 4%4294967296)) (.int .u32 (numAt l 8 4%4294967296)) (.int .u8 (numAt l 13 1%256)) (.int .u16 (numAt l 14 2%65536)) (.int .u16 (numAt l 18 2%65536))) y11):=Jnv (ST10.out.next hr ho)
 clear hr ho ST10
 have hrow:=ST11.out.row
 have hc8:y11.cell? ⟨w.heap.size,8,none⟩=some (.slice none 0 0):=cell_of_row _ _ 8 _ _ (0,0) hrow
 have hf8:=frozen_of_row _ _ 8 _ _ hrow
 have ST12:Hid (RS w b p l (20+k) (Joj (.int .u16 (numAt l 0 2%65536)) (.int .u16 (numAt l 2 2%65536)) (.int .u32 (numAt l 4 4%4294967296)) (.int .u32 (numAt l 8 4%4294967296)) (.int .u8 (numAt l 13 1%256)) (.int .u16 (numAt l 14 2%65536)) (.int .u16 (numAt l 18 2%65536)) (.slice oO k cO)) (y11.setCell ⟨w.heap.size,8,none⟩ (.slice oO k cO))):=Jnv (ST11.out.set 8 (.slice oO k cO) rfl)
 clear hrow
 have hle20:20+k≤l.length:=by have:=HK20.out;omega
 go_wp2_with fail
 refine Jnx (HRS.out (20+k) _ ST12.out.rd hle20) ?_
 rintro e y13 ⟨oD,cD,rfl,hr,ho⟩
 have ST13:Hid (RS w b p l l.length (Joj (.int .u16 (numAt l 0 2%65536)) (.int .u16 (numAt l 2 2%65536)) (.int .u32 (numAt l 4 4%4294967296)) (.int .u32 (numAt l 8 4%4294967296)) (.int .u8 (numAt l 13 1%256)) (.int .u16 (numAt l 14 2%65536)) (.int .u16 (numAt l 18 2%65536)) (.slice oO k cO)) y13):=Jnv (ST12.out.next hr ho)
 clear hr ho ST12 hc8 hf8 ST11
 have hrow:=ST13.out.row
 have hc11:y13.cell? ⟨w.heap.size,11,none⟩=some (.slice none 0 0):=cell_of_row _ _ 11 _ _ (0,0) hrow
 have hf11:=frozen_of_row _ _ 11 _ _ hrow
 have HM:Hid (l.length-V/16*4=l.length-(20+k)):=Jnv (by rw[HK20.out])
 generalize l.length-(20+k)=m at*
 have ST14:Hid (RS w b p l l.length (Jok (.int .u16 (numAt l 0 2%65536)) (.int .u16 (numAt l 2 2%65536)) (.int .u32 (numAt l 4 4%4294967296)) (.int .u32 (numAt l 8 4%4294967296)) (.int .u8 (numAt l 13 1%256)) (.int .u16 (numAt l 14 2%65536)) (.int .u16 (numAt l 18 2%65536)) (.slice oO k cO) (.slice oD m cD)) (y13.setCell ⟨w.heap.size,11,none⟩ (.slice oD m cD))):=Jnv (ST13.out.set 11 (.slice oD m cD) rfl)
 clear hrow
 have hpt:Jc (y13.setCell ⟨w.heap.size,11,none⟩ (.slice oD m cD)) w.heap.size 0 12=(Jok (.int .u16 (numAt l 0 2%65536)) (.int .u16 (numAt l 2 2%65536)) (.int .u32 (numAt l 4 4%4294967296)) (.int .u32 (numAt l 8 4%4294967296)) (.int .u8 (numAt l 13 1%256)) (.int .u16 (numAt l 14 2%65536)) (.int .u16 (numAt l 18 2%65536)) (.slice oO k cO) (.slice oD m cD):Array Value):=Jb ST14.out.row rfl
 have hrf:Jl (y13.setCell ⟨w.heap.size,11,none⟩ (.slice oD m cD)) w.heap.size 12=true:=by rw[Jd _ _ _ _ _ ST14.out.row];rfl
 go_wp2_with fail
 have HF:=ST14.out.setRow (cs':=(Jok (.int .u16 (numAt l 0 2%65536)) (.int .u16 (numAt l 2 2%65536)) (.int .u32 (numAt l 4 4%4294967296)) (.int .u32 (numAt l 8 4%4294967296)) (.int .u8 (numAt l 13 1%256)) (.int .u16 (numAt l 14 2%65536)) (.int .u16 (numAt l 18 2%65536)) (.slice oO k cO) (.slice oD m cD)))
 rw[←HKK.out,HM.out]
 exact bodyPost_ret (QI rfl _ _ w.heap.size _ _ _ (0,0) rfl rfl HF.2 rfl) rfl ⟨⟨oO,cO,oD,cD,rfl⟩,HF.1⟩
end
end Go.Proofs.YtkgjbipfhhjlpaaGreatDoor
