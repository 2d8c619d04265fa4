import Derived.Test.YtkgjbipfhhjlpaaGreatDoorMb13
set_option linter.unusedVariables false
set_option linter.unusedSimpArgs false
set_option maxRecDepth 100000
set_option maxHeartbeats 32000000
namespace Go.Proofs.YtkgjbipfhhjlpaaGreatDoor
section
open Go.RowKit Bits
def Jc4 (w:World)(oi:Option Addr)(L:List Int)(err:Int):Ending→World→Prop:=fun e w'=>∃oa cap,e=.returned (.tuple #[.slice oa L.length cap,.int .i64 err])∧Ji w' oa L.length cap L∧Below w.heap.size w w'∧∀a,oa=some a→∃a0,oi=some a0∧a0.block=a.block
theorem Jc4.mk {w w':World}{oi:Option Addr}{L:List Int}{err:Int}{oa:Option Addr}{n cap:Nat}(hr:Ji w' oa n cap L)(hb:Below w.heap.size w w')(hi:∀a,oa=some a→∃a0,oi=some a0∧a0.block=a.block):Jc4 w oi L err (.returned (.tuple #[.slice oa n cap,.int .i64 err])) w':=by
 obtain rfl:=hr.len
 exact⟨oa,cap,rfl,hr,hb,hi⟩
theorem Ja5 (oa:Option Addr)(k cap size:Nat)(a:Addr)(h:Jk oa k cap size=some a):∃a0,oa=some a0∧a0.block=a.block:=by
 unfold Jk at h
 split at h
 ·exact⟨a,h,rfl⟩
 ·obtain⟨a0,h1,rfl⟩:=Option.map_eq_some_iff.1 h
  exact⟨a0,h1,by unfold Addr.add;split<;>rfl⟩
theorem JiJ (oa:Option Addr)(n cap:Nat)(l:List Int)(w:World)(hr:Ji w oa n cap l)(hn2:n≤100000):Calls Tryz.prog 82 #[.slice oa n cap] w (Jc4 w oa (Qf l) (Jm l)):=by
 have HR:=Jpa hr
 have hlen:=hr.len
 have HP:=Jpa (Jc3 oa n cap l w hr hn2)
 clear hr
 by_cases h0:Qe l=0
 ·have HV:Hid (Jmg l=.tuple #[.agg (Jmf l),.int .i64 (ipHl l:Int),.int .i64 0]):=Jpa (by unfold Jmg;rw[if_pos h0])
  have hk:=Jdq h0
  have hbd:=QB HR.out.byte 2
  have HE:Hid (Jm l=if (l.length:Int)<w2 l 2 then 10 else 0):=Jpa (by unfold Jm;rw[if_neg (by rw[h0];decide)])
  obtain⟨tot,htot⟩:∃t:Nat,w2 l 2=t:=⟨(w2 l 2).toNat,by omega⟩
  obtain⟨hl,hhl⟩:∃k:Nat,ipHl l=k:=⟨_,rfl⟩
  have HBD:Hid (ZF l=(l.drop hl).take (tot-hl)):=Jpa (by unfold ZF;rw[hhl,htot,Int.toNat_natCast])
  have hbt:tot<65536:=by omega
  clear hbd
  rw[htot,hlen] at HE
  rw[htot,hhl,hlen] at hk
  rw[HV.out] at HP
  unfold Jmf at HP
  rw[htot,hhl] at HP
  generalize strOfNums ((l.drop 12).take 4)=s1 at*
  generalize strOfNums ((l.drop 16).take 4)=s2 at*
  generalize strOfNums ((l.drop 20).take (hl-20))=s3 at*
  clear HV htot hhl
  clear h0
  go_enter Tryz.func82,Tryz.ntmps82
  go_wp2_with fail
  refine Jpc HP.out ?_
  rintro e w1 ⟨rfl,hb⟩
  have HB:=Jpa hb
  have HR1:=Jpa (HR.out.below hb)
  clear hb HP HR
  by_cases hs:(n:Int)<tot
  ·have HE2:Hid (Jm l=10):=Jpa (by rw[HE.out,if_pos hs])
   have HL:Hid (Qf l=[]):=Jpa (by unfold Qf;rw[if_neg (by rw[HE2.out];decide)])
   go_wp2_with fail
   go_ret2
   show Jc4 w oa (Qf l) (Jm l) _ _
   rw[HE2.out,HL.out]
   exact .mk (Ji.nil _) (Below.all HB.out _) (fun a h=>by cases h)
  ·have HE2:Hid (Jm l=0):=Jpa (by rw[HE.out,if_neg hs])
   have HL:Hid (Qf l=(l.drop hl).take (tot-hl)):=Jpa (by unfold Qf;rw[if_pos HE2.out,HBD.out])
   have hle:=HR1.out.le
   have hcut:∀w,(Instr.slice 22 (.slice oa n cap) (some (.int .i64 (hl:Int))) (some (.int .u16 (tot:Int))) none).run Tryz.prog w=.ok (.slice (Jk oa hl cap 1) (tot-hl) (cap-hl)) w:=fun w=>Jc0 _ .i64 .u16 oa n cap 1 rfl rfl hl tot _ _ rfl rfl (by omega) (by omega) w
   go_wp2_with fail
   go_ret2
   show Jc4 w oa (Qf l) (Jm l) _ _
   rw[HE2.out,HL.out]
   exact .mk (((HR1.out.alloc _).cut hl (by omega)).take (tot-hl) (by omega)) (Below.all HB.out _) (fun a h=>Ja5 _ _ _ _ a h)
 ·have HV:Hid (Jmg l=JmT (Qe l)):=Jpa (by unfold Jmg;rw[if_neg h0])
  have HE:Hid (Jm l=Qe l):=Jpa (by unfold Jm;rw[if_pos h0])
  have HL:Hid (Qf l=[]):=Jpa (by unfold Qf;rw[if_neg (by rw[HE.out];exact h0)])
  have hne:(Qe l==0)=false:=by simpa using h0
  have hne2:(Qe l != 0)=true:=by simpa using h0
  rw[HV.out] at HP
  unfold JmT Jds at HP
  clear HV h0
  have HF:Hid (Jc4 w oa (Qf l) (Jm l)=Jc4 w oa [] (Qe l)):=Jpa (by rw[HE.out,HL.out])
  generalize Qe l=err at*
  go_enter Tryz.func82,Tryz.ntmps82
  go_wp2_with fail
  refine Jpc HP.out ?_
  rintro e w1 ⟨rfl,hb⟩
  have HB:=Jpa hb
  clear hb HP
  go_wp2_with fail
  go_ret2
  show Jc4 w oa (Qf l) (Jm l) _ _
  rw[HF.out]
  exact .mk (Ji.nil _) (Below.all HB.out _) (fun a h=>by cases h)
structure SxH where
 cls:Int
 flow:Int
 len:Int
 nxt:Int
 hops:Int
 src:List Int
 dst:List Int
structure JoJ (h:SxH):Prop where
 cls:0≤h.cls∧h.cls<256
 flow:0≤h.flow∧h.flow<4294967296
 len:0≤h.len∧h.len<65536
 nxt:0≤h.nxt∧h.nxt<256
 hops:0≤h.hops∧h.hops<256
 src:h.src.length=16∧Jl h.src
 dst:h.dst.length=16∧Jl h.dst
def sxF (c f l n o:Int)(S D:Nat→Int):Array Value:=(Jpy c (.int .u32 f) (.int .u16 l) n o S D)
def sxV (h:SxH):Array Value:=sxF h.cls h.flow h.len h.nxt h.hops (fun i=>h.src.getD i 0) (fun i=>h.dst.getD i 0)
def Jad (h:SxH):Int:=if h.flow<1048576 then 0 else 51
def Jgv (h:SxH):List Int:=be4 (1610612736+h.cls*1048576+h.flow)++be2 h.len++[h.nxt,h.hops]++h.src++h.dst
def Jd8 (h:SxH):List Int:=if h.flow<1048576 then Jgv h else []
structure JiK (w:World)(b0:Nat)(ob:Obj)(p:Nat)(y:World)(L:List Int):Prop where
 wr:Wr y p L
 box:y.heap[b0]? =some ob
 out:Below w.heap.size w y
 lo:w.heap.size≤b0
 lt0:b0<p
theorem JiK.below {w:World}{b0:Nat}{ob:Obj}{p:Nat}{y y':World}{L:List Int}(h:JiK w b0 ob p y L)(hb:Below y.heap.size y y'):JiK w b0 ob p y' L:=
 ⟨h.wr.below hb,(hb.block _ (Nat.lt_trans h.lt0 h.wr.lt)).trans h.box,Jo3 h.out hb,h.lo,h.lt0⟩
theorem JiK.belowP {w:World}{b0:Nat}{ob:Obj}{p:Nat}{y y':World}{L L':List Int}(h:JiK w b0 ob p y L)(hb:Below p y y')(hw:Wr y' p L'):JiK w b0 ob p y' L':=
 ⟨hw,(hb.block _ h.lt0).trans h.box,h.out.trans (hb.mono (Nat.le_trans h.lo (Nat.le_of_lt h.lt0))),h.lo,h.lt0⟩
theorem Wr.new {w:World}{p:Nat}(hc:w.cell? ⟨p,0,none⟩=some (.slice none 0 0))(hf:w.frozen? ⟨p,0,none⟩=false)(hlt:p<w.heap.size):Wr w p []:=
 ⟨⟨none,0,hc,JF.nil _ _ _⟩,hf,hlt,by simp⟩
theorem JlM (v:Int):Jl (be4 v):=Jgh v
theorem JiL (c f:Int)(hc:0≤c∧c<256)(hf:0≤f∧f<1048576):bits .or .u64 (bits .or .u64 1610612736 (c*1048576)) f=1610612736+c*1048576+f:=by
 obtain⟨a,rfl⟩:∃a:Nat,c=a:=⟨c.toNat,by omega⟩
 obtain⟨b,rfl⟩:∃b:Nat,f=b:=⟨f.toNat,by omega⟩
 have h1:=Ja4 28 6 (a*1048576) (by omega) (by omega)
 rw[show(((2^28*6:Nat)):Int)=1610612736 by decide,show((a*1048576:Nat):Int)=(a:Int)*1048576 by omega] at h1
 rw[h1]
 have h2:=Ja4 20 (6*256+a) b (by omega) (by omega)
 rw[show((2^20*(6*256+a):Nat):Int)=((2^28*6+a*1048576:Nat):Int) by omega] at h2
 rw[h2];omega
theorem JlN (h:SxH)(w:World)(hk:JoJ h):Calls Tryz.prog 55 #[.agg (sxV h)] w (Jw w (Jd8 h) (Jad h)):=by
 have HK:=Jpa hk
 have bc:=hk.cls
 have bl:=hk.len
 have bn:=hk.nxt
 have bh:=hk.hops
 have bf:=hk.flow
 have HSR:Hid (∀(y:World) (b:Nat) (t:TypeId),y.heap[b]? =some (.cells (sxV h) t (0,0))→Ji y (some ⟨b,5,none⟩) 16 16 h.src):=Jpa (fun y b t hy=>XO hy 5 16 h.src hk.src.1 hk.src.2 (by decide) (fun j hj=>by
  rcases j with _|_|_|_|_|_|_|_|_|_|_|_|_|_|_|_|j
  all_goals first|rfl|omega))
 have HDR:Hid (∀(y:World) (b:Nat) (t:TypeId),y.heap[b]? =some (.cells (sxV h) t (0,0))→Ji y (some ⟨b,21,none⟩) 16 16 h.dst):=Jpa (fun y b t hy=>XO hy 21 16 h.dst hk.dst.1 hk.dst.2 (by decide) (fun j hj=>by
  rcases j with _|_|_|_|_|_|_|_|_|_|_|_|_|_|_|_|j
  all_goals first|rfl|omega))
 clear hk
 by_cases hfl:h.flow<1048576
 rotate_left
 ·have HF:Hid (Jw w (Jd8 h) (Jad h)=Jw w [] 51):=Jpa (by unfold Jd8 Jad;rw[if_neg hfl,if_neg hfl])
  have hd:decide (1048576≤h.flow)=true:=by simp;omega
  clear HK HSR HDR
  unfold sxV
  generalize (fun i=>h.src.getD i 0)=S at*
  generalize (fun i=>h.dst.getD i 0)=D at*
  unfold sxF
  go_enter Tryz.func55,Tryz.ntmps55
  go_wp2_with fail
  go_ret2
  show Jw w (Jd8 h) (Jad h) _ _
  rw[HF.out]
  exact⟨none,0,rfl,JF.nil _ _ _,Below.all (Jpd _ _) _⟩
 have HF:Hid (Jw w (Jd8 h) (Jad h)=Jw w (Jgv h) 0):=Jpa (by unfold Jd8 Jad;rw[if_pos hfl,if_pos hfl])
 have HBY:Hid (Jgv h=be4 (1610612736+h.cls*1048576+h.flow)++be2 h.len++[h.nxt,h.hops]++h.src++h.dst):=Jpa rfl
 have HOR:=Jpa (JiL h.cls h.flow bc ⟨bf.1,hfl⟩)
 have hd:decide (1048576≤h.flow)=false:=by simp;omega
 obtain⟨ob,hob⟩:∃ob,ob=Obj.cells (sxV h) 118:=⟨_,rfl⟩
 have hbox:(w.alloc (.cells (sxV h) 118)).heap[w.heap.size]? =some (.cells (sxV h) 118 (0,0)):=heap_alloc_new w _
 have ST0:Hid (JiK w w.heap.size (.cells (sxV h) 118 (0,0)) (w.heap.size+1) ((w.alloc (.cells (sxV h) 118)).alloc (.cells #[Jpj] 137)) []):=Jpa ⟨Wr.new (by have:=World.size_alloc w (.cells (sxV h) 118);go_cell) (by go_cell) (by simp),(heap_alloc_old _ _ (by simp)).trans hbox,Below.all (Below.all (Jpd _ _) _) _,Jpf _,by omega⟩
 clear hbox hob
 clear ob
 unfold sxV at*
 generalize (fun i=>h.src.getD i 0)=S at*
 generalize (fun i=>h.dst.getD i 0)=D at*
 unfold sxF at*
 go_enter Tryz.func55,Tryz.ntmps55
 go_wp2_with fail
 rw[HOR.out]
 generalize hy0:((w.alloc (.cells (Jpy (.int .u8 h.cls) (.int .u32 h.flow) (.int .u16 h.len) (.int .u8 h.nxt) (.int .u8 h.hops) S D) 118)).alloc (.cells #[Jpj] 137))=y0 at*
 clear hy0
 refine Jpc (JmI _ [] _ (by omega) (by omega) _ ST0.out.wr (by decide)) ?_
 rintro e y1 ⟨rfl,hw1,hb1⟩
 have ST1:=Jpa (ST0.out.belowP hb1 hw1)
 have hr:=ST1.out.box
 have hc2:y1.cell? ⟨w.heap.size,2,none⟩=some (.int .u16 h.len):=cell_of_row _ _ 2 _ _ (0,0) hr
 clear hr hb1 hw1 ST0
 go_wp2_with fail
 refine Jpc (JmL _ _ _ (by omega) (by omega) _ ST1.out.wr (by simp[be4])) ?_
 rintro e y2 ⟨rfl,hw2,hb2⟩
 have ST2:=Jpa (ST1.out.belowP hb2 hw2)
 have hr:=ST2.out.box
 have hc3:y2.cell? ⟨w.heap.size,3,none⟩=some (.int .u8 h.nxt):=cell_of_row _ _ 3 _ _ (0,0) hr
 have hc4:y2.cell? ⟨w.heap.size,4,none⟩=some (.int .u8 h.hops):=cell_of_row _ _ 4 _ _ (0,0) hr
 clear hr hb2 hw2 ST1 hc2
 have hlt2:w.heap.size+1<y2.heap.size:=ST2.out.wr.lt
 go_wp2_with fail
 have HRL:=Jpa (XO (heap_alloc_new y2 (.cells #[.int .u8 h.nxt,.int .u8 h.hops] 5)) 0 2 [h.nxt,h.hops] rfl (by intro v hv;simp only[List.mem_cons,List.not_mem_nil,or_false] at hv;rcases hv with rfl|rfl;exact bn;exact bh) (by decide) (fun j hj=>by
  rcases j with _|_|j
  ·rfl
  ·rfl
  ·omega))
 have st2:=ST2.out.below (Below.all (Jpd _ _) (.cells #[.int .u8 h.nxt,.int .u8 h.hops] 5))
 refine Jpc (JdY _ _ _ _ _ [h.nxt,h.hops] _ st2.wr HRL.out (by simp[be4,be2])) ?_
 rintro e y3 ⟨rfl,hw3,hb3⟩
 have ST3:=Jpa (st2.belowP hb3 hw3)
 clear hb3 hw3 ST2 st2 hc3 hc4 hlt2 HRL
 go_wp2_with fail
 refine Jpc (JdY _ _ _ _ _ h.src _ ST3.out.wr (HSR.out _ _ _ ST3.out.box) (by simp[be4,be2,HK.out.src.1])) ?_
 rintro e y4 ⟨rfl,hw4,hb4⟩
 have ST4:=Jpa (ST3.out.belowP hb4 hw4)
 clear hb4 hw4 ST3
 go_wp2_with fail
 refine Jpc (JdY _ _ _ _ _ h.dst _ ST4.out.wr (HDR.out _ _ _ ST4.out.box) (by simp[be4,be2,HK.out.src.1,HK.out.dst.1])) ?_
 rintro e y5 ⟨rfl,hw5,hb5⟩
 have ST5:=Jpa (ST4.out.belowP hb5 hw5)
 clear hb5 hw5 ST4
 go_wp2_with fail
 refine Jpc (Bits.bytes_any _ _ _ ST5.out.wr (by simp[be4,be2,HK.out.src.1,HK.out.dst.1])) ?_
 rintro e y6 ⟨oa,cap,rfl,ho,hb⟩
 have HO:=Jpa (ho.mono ST5.out.out.size)
 have HB:Hid (Below w.heap.size w y6):=Jpa (Jo3 ST5.out.out hb)
 clear ho hb ST5
 rw[List.nil_append,←HBY.out] at HO⊢
 generalize hlf:(Jgv h).length=lf at*
 go_wp2_with fail
 go_ret2
 show Jw w (Jd8 h) (Jad h) _ _
 rw[HF.out]
 exact⟨oa,cap,by rw[hlf];rfl,by rw[hlf];exact HO.out,HB.out⟩
theorem Jc5 {w:World}{g off n cap:Nat}{l:List Int}(h:Ji w (some ⟨g,off,none⟩) n cap l)(i m:Nat)(hm:i+m≤n)(hp:0<n):Jf w g (off+i) m=((List.range m).map fun k=>Value.int .u8 (l.getD (i+k) 0)).toArray:=by
 obtain⟨g',off',e,hlt,hc⟩:=h.here hp
 cases e
 unfold Jf
 cases hh:w.heap[g]? with
 |none=>have:=hc 0 (by omega);simp[World.cell?,hh] at this
 |some ob=>
  cases ob with
  |cells cs t fr=>
   simp only
   have hg:∀k,k<m→cs[off+(i+k)]? =some (.int .u8 (l.getD (i+k) 0)):=fun k hk=>by
    rw[←cell_of_row w g (off+(i+k)) cs t fr hh];exact hc (i+k) (by omega)
   apply Array.ext_getElem?
   intro j
   rw[Array.getElem?_extract]
   by_cases hj:j<m
   ·have hjj:=hg j hj
    have hs:off+(i+j)<cs.size:=(Jpb hjj).1
    rw[←Nat.add_assoc] at hjj hs
    rw[if_pos (by omega),hjj]
    simp[hj]
   ·rw[if_neg (by omega)]
    simp[hj]
  |_=>have:=hc 0 (by omega);simp[World.cell?,hh] at this
theorem Jd9 {P:Program}(t e:TypeId)(ht:P.underlying t=some (.array 16 e))(a:Option Addr)(n c:Nat)(h:16≤n)(w:World):(Instr.arrayAt t (.slice a n c)).run P w=.ok (.pointer a) w:=by
 have h':¬n<16:=by omega
 simp[Instr.arrayAt,Sem.run_bind,run_underlying ht,h',Result.andThen]
def sxZ:Array Value:=sxF 0 0 0 0 0 (fun _=>0) (fun _=>0)
def sxA (l:List Int):Array Value:=sxF (w4 l 0/1048576%256) (w4 l 0%1048576) (w2 l 4) (l.getD 6 0) (l.getD 7 0) (atB l 8) (atB l 24)
def sxR (l:List Int):Value:=if Xk l=0 then .tuple #[.agg (sxA l),.int .i64 0] else .tuple #[.agg sxZ,.int .i64 (Xk l)]
theorem JiM {w w':World}{l:List Int}{err:Int}{tmps:Array Value}(b:Nat)(cs:Array Value)(hp:tmps.getD 2 undef=.pointer (some ⟨b,0,none⟩))(h3:tmps.getD 3 undef=.int .i64 err)(hc:Jf w' b 0 37=cs)(hs:cs.size=37)(hv:sxR l=.tuple #[.agg cs,.int .i64 err])(hb:Below w.heap.size w w'):
 bodyPost Tryz.prog Tryz.f114 (Jh w (sxR l)) .ret { tmps:=tmps,defers:=[] } w':=
 bodyPost_ret (v:=.tuple #[.agg cs,.int .i64 err]) (Qi rfl _ _ b 37 _ _ Tryz.underlying118 rfl Jjn hp h3 cs hc hs) rfl (.mk hv.symm hb)
theorem JiN (oa:Option Addr)(n cap:Nat)(l:List Int)(w:World)(hr:Ji w oa n cap l)(hn2:n≤100000):
 Calls Tryz.prog 114 #[.slice oa n cap] w (Jh w (sxR l)):=by
 have hlen:=hr.len
 have HR:=Jpa hr
 have HB:=Jpa (Below.all (Jpd w.heap.size w) (.cells sxZ 118))
 have hbx:(w.alloc (.cells sxZ 118)).heap[w.heap.size]? =some (.cells sxZ 118 (0,0)):=heap_alloc_new w _
 have HC:=Jpa hbx
 clear hbx
 by_cases h40:n<40
 ·have h40':decide ((n:Int)<40)=true:=by simp;omega
  have HE:Hid (sxR l=.tuple #[.agg sxZ,.int .i64 10]):=Jpa (by unfold sxR Xk;rw[hlen,if_pos h40,if_neg (by decide)])
  unfold sxZ sxF at HB HC
  clear hr
  go_enter Tryz.func114,Tryz.ntmps114
  go_wp2_with fail
  exact JiM w.heap.size sxZ rfl rfl (by rw[Jq _ _ _ _ _ _ _ HC.out];rfl) rfl HE.out HB.out
 have h40':decide ((n:Int)<40)=false:=by simp;omega
 obtain⟨g,off,rfl,hgl,hc⟩:=hr.here (by omega)
 have hb4:=Jia hr.byte 0
 have hb2:=QB hr.byte 4
 have HG4:Hid (∀w1,Ji w1 (some ⟨g,off,none⟩) n cap l→Calls Tryz.prog 81 #[.slice (some ⟨g,off,none⟩) n cap,.int .i64 0,.int .i64 4] w1 (Jh w1 (.tuple #[.int .u64 (w4 l 0),.int .i64 0]))):=Jpa (fun w1 h1=>by
  have:=get_ok (some ⟨g,off,none⟩) n cap l 0 4 w1 h1 (by decide) (by decide) (by omega) (by omega)
  rwa [XW l 0 (by omega)] at this)
 have HG2:Hid (∀w1,Ji w1 (some ⟨g,off,none⟩) n cap l→Calls Tryz.prog 81 #[.slice (some ⟨g,off,none⟩) n cap,.int .i64 4,.int .i64 2] w1 (Jh w1 (.tuple #[.int .u64 (w2 l 4),.int .i64 0]))):=Jpa (fun w1 h1=>by
  have:=get_ok (some ⟨g,off,none⟩) n cap l 4 2 w1 h1 (by decide) (by decide) (by omega) (by omega)
  rwa [JY l 4 (by omega)] at this)
 have HER:Hid (Xk l=if w4 l 0/268435456≠6 then 50 else 0):=Jpa (by unfold Xk;rw[hlen,if_neg h40])
 have HA:Hid (sxA l=sxF (w4 l 0/1048576%256) (w4 l 0%1048576) (w2 l 4) (l.getD 6 0) (l.getD 7 0) (atB l 8) (atB l 24)):=Jpa rfl
 have HP8:Hid (∀w1,Ji w1 (some ⟨g,off,none⟩) n cap l→Jf w1 g (off+8) 16=(JpQ (.int .u8 (atB l 8 0)) (.int .u8 (atB l 8 1)) (.int .u8 (atB l 8 2)) (.int .u8 (atB l 8 3)) (.int .u8 (atB l 8 4)) (.int .u8 (atB l 8 5)) (.int .u8 (atB l 8 6)) (.int .u8 (atB l 8 7)) (.int .u8 (atB l 8 8)) (.int .u8 (atB l 8 9)) (.int .u8 (atB l 8 10)) (.int .u8 (atB l 8 11)) (.int .u8 (atB l 8 12)) (.int .u8 (atB l 8 13)) (.int .u8 (atB l 8 14)) (.int .u8 (atB l 8 15)):Array Value)):=Jpa (fun w1 h1=>Jc5 h1 8 16 (by omega) (by omega))
 have HP24:Hid (∀w1,Ji w1 (some ⟨g,off,none⟩) n cap l→Jf w1 g (off+24) 16=(JpQ (.int .u8 (atB l 24 0)) (.int .u8 (atB l 24 1)) (.int .u8 (atB l 24 2)) (.int .u8 (atB l 24 3)) (.int .u8 (atB l 24 4)) (.int .u8 (atB l 24 5)) (.int .u8 (atB l 24 6)) (.int .u8 (atB l 24 7)) (.int .u8 (atB l 24 8)) (.int .u8 (atB l 24 9)) (.int .u8 (atB l 24 10)) (.int .u8 (atB l 24 11)) (.int .u8 (atB l 24 12)) (.int .u8 (atB l 24 13)) (.int .u8 (atB l 24 14)) (.int .u8 (atB l 24 15)):Array Value)):=Jpa (fun w1 h1=>Jc5 h1 24 16 (by omega) (by omega))
 obtain⟨b6,e6⟩:∃v,l.getD 6 0=v:=⟨_,rfl⟩
 obtain⟨b7,e7⟩:∃v,l.getD 7 0=v:=⟨_,rfl⟩
 have HB6:=Jpa e6
 have HB7:=Jpa e7
 rw[e6,e7] at HA
 clear e6 e7
 obtain⟨v4,e4⟩:∃v,w4 l 0=v:=⟨_,rfl⟩
 obtain⟨v2,e2⟩:∃v,w2 l 4=v:=⟨_,rfl⟩
 rw[e4] at hb4 HG4 HER HA
 rw[e2] at hb2 HG2 HA
 generalize atB l 8=S at*
 generalize atB l 24=D at*
 have hand:=Jgs v4 20 hb4.1 (by omega) (by omega)
 rw[show(((2^20-1:Nat)):Int)=1048575 from rfl,show(((2^20:Nat)):Int)=1048576 from rfl] at hand
 unfold sxZ sxF at HB HC
 have HR0:=Jpa (HR.out.alloc (.cells Jqa 118))
 clear hr hc e4 e2
 go_enter Tryz.func114,Tryz.ntmps114
 go_wp2_with fail
 generalize (w.alloc (.cells Jqa 118))=y0 at*
 refine Jpc (HG4.out _ HR0.out) ?_
 rintro e y1 ⟨rfl,hb⟩
 have HR1:=Jpa (HR0.out.below hb)
 have HB1:=Jpa (Jo3 HB.out hb)
 have HC1:=Jpa ((hb.block _ (Jpb HC.out).1).trans HC.out)
 clear hb HB HC HR0 HG4
 go_wp2_with fail
 refine Jpc (HG2.out _ HR1.out) ?_
 rintro e y2 ⟨rfl,hb⟩
 have HR2:=Jpa (HR1.out.below hb)
 have HB2:=Jpa (Jo3 HB1.out hb)
 have HC2:=Jpa ((hb.block _ (Jpb HC1.out).1).trans HC1.out)
 clear hb HB1 HC1 HR1 HG2
 have hrf:Jg y2 w.heap.size 37=true:=by rw[Jc _ _ _ _ _ HC2.out];rfl
 by_cases h6:v4/268435456=6
 rotate_left
 ·have h6':(v4/268435456 != 6)=true:=by simpa using h6
  have HE:Hid (sxR l=.tuple #[.agg sxZ,.int .i64 50]):=Jpa (by unfold sxR;rw[HER.out,if_pos h6,if_neg (by decide)])
  go_wp2_with fail
  exact JiM w.heap.size sxZ rfl rfl (XZ HC2.out) rfl HE.out (below_setRow HB2.out (Jpf _) _)
 have h6':(v4/268435456 != 6)=false:=by simpa using h6
 have HE:Hid (sxR l=.tuple #[.agg (sxA l),.int .i64 0]):=Jpa (by
  have e0:Xk l=0:=by rw[HER.out];simp[h6]
  unfold sxR;rw[if_pos e0])
 clear HER
 have hle:=HR2.out.le
 have hs1:=fun w=>JW (P:=Tryz.prog) 22 (some ⟨g,off,none⟩) n cap 1 elemBytes sizeBytes 8 24 8 24 rfl rfl (by omega) (by omega) w
 have hs2:=fun w=>JW (P:=Tryz.prog) 22 (some ⟨g,off,none⟩) n cap 1 elemBytes sizeBytes 24 40 24 40 rfl rfl (by omega) (by omega) w
 rw[show Jk (some ⟨g,off,none⟩) 8 cap 1=some ⟨g,off+8,none⟩ by unfold Jk;rw[if_neg (by omega)];rfl] at hs1
 rw[show Jk (some ⟨g,off,none⟩) 24 cap 1=some ⟨g,off+24,none⟩ by unfold Jk;rw[if_neg (by omega)];rfl] at hs2
 have harr8:=Jd9 (P:=Tryz.prog) 25 _ Tryz.underlying25 (some ⟨g,off+8,none⟩) 16 (cap-8) (by omega)
 have harr24:=Jd9 (P:=Tryz.prog) 25 _ Tryz.underlying25 (some ⟨g,off+24,none⟩) 16 (cap-24) (by omega)
 clear hle
 go_wp2_with fail
 refine QI 23 (by kernel_rfl) (by kernel_rfl) ?_
 obtain⟨g',off',hop,hgx,hcx⟩:=HR2.out.here (by omega)
 cases hop
 have hc6:=hcx 6 (by omega)
 have hc7:=hcx 7 (by omega)
 rw[HB6.out] at hc6
 rw[HB7.out] at hc7
 have hp8:=HP8.out y2 HR2.out
 have hp24:=HP24.out y2 HR2.out
 clear hcx
 simp only[List.take_succ_cons,List.take_zero]
 repeat go_big_quiet_step (fail)
 refine wpQuiet_nil ?_
 intro x
 simp only[List.drop_succ_cons,List.drop_zero]
 have HB3:=Jpa (Jo3 HB2.out x.below)
 have HC3:=Jpa ((x.below.block _ (Jpb HC2.out).1).trans HC2.out)
 clear hs1 hs2 harr8 harr24 hc6 hc7 hp8 hp24 HB2 HC2 hrf HR2 hand
 have hrf:Jg x.world w.heap.size 37=true:=by rw[Jc _ _ _ _ _ HC3.out];rfl
 generalize x.world=y3 at*
 go_wp2_with fail
 exact JiM w.heap.size (sxA l) rfl rfl (by rw[HA.out];exact XZ HC3.out) rfl HE.out (below_setRow HB3.out (Jpf _) _)
def Jdf:Array Value:=JpM
def Jnf (l:List Int):Array Value:=(Jpt (.int .u8 (w4 l 0/1048576%256)) (.int .u32 (w4 l 0%1048576)) (.int .u16 (w2 l 4)) (.int .u8 (l.getD 6 0)) (.int .u8 (l.getD 7 0)) (.string (strOfNums ((l.drop 8).take 16))) (.string (strOfNums ((l.drop 24).take 16))))
def Jj9 (l:List Int):Value:=if Xk l=0 then .tuple #[.agg (Jnf l),.int .i64 0] else .tuple #[.agg Jdf,.int .i64 (Xk l)]
theorem Jgw {w w':World}{l:List Int}{err:Int}{tmps:Array Value}(b:Nat)(cs:Array Value)(hp:tmps.getD 2 undef=.pointer (some ⟨b,0,none⟩))(h3:tmps.getD 3 undef=.int .i64 err)(hc:Jf w' b 0 7=cs)(hs:cs.size=7)(hv:Jj9 l=.tuple #[.agg cs,.int .i64 err])(hb:Below w.heap.size w w'):
 bodyPost Tryz.prog Tryz.f146 (Jh w (Jj9 l)) .ret { tmps:=tmps,defers:=[] } w':=
 bodyPost_ret (v:=.tuple #[.agg cs,.int .i64 err]) (Qi rfl _ _ b 7 _ _ Tryz.underlying109 rfl Jho hp h3 cs hc hs) rfl (.mk hv.symm hb)
theorem JhL (oa:Option Addr)(n cap:Nat)(l:List Int)(w:World)(hr:Ji w oa n cap l)(hn2:n≤100000):
 Calls Tryz.prog 146 #[.slice oa n cap] w (Jh w (Jj9 l)):=by
 have hlen:=hr.len
 have HR:=Jpa hr
 have HB:=Jpa (Below.all (Jpd w.heap.size w) (.cells Jdf 109))
 have hbx:(w.alloc (.cells Jdf 109)).heap[w.heap.size]? =some (.cells Jdf 109 (0,0)):=heap_alloc_new w _
 have HC:=Jpa hbx
 clear hbx
 by_cases h40:n<40
 ·have h40':decide ((n:Int)<40)=true:=by simp;omega
  have HE:Hid (Jj9 l=.tuple #[.agg Jdf,.int .i64 10]):=Jpa (by unfold Jj9 Xk;rw[hlen,if_pos h40,if_neg (by decide)])
  unfold Jdf at HB HC
  clear hr
  go_enter Tryz.func146,Tryz.ntmps146
  go_wp2_with fail
  exact Jgw w.heap.size Jdf rfl rfl (by rw[Jq _ _ _ _ _ _ _ HC.out];rfl) rfl HE.out HB.out
 have h40':decide ((n:Int)<40)=false:=by simp;omega
 obtain⟨g,off,rfl,hgl,hc⟩:=hr.here (by omega)
 have hb4:=Jia hr.byte 0
 have hb2:=QB hr.byte 4
 have HG4:Hid (∀w1,Ji w1 (some ⟨g,off,none⟩) n cap l→Calls Tryz.prog 88 #[.slice (some ⟨g,off,none⟩) n cap,.int .i64 0,.int .i64 4] w1 (Jh w1 (.tuple #[.int .u64 (w4 l 0),.int .i64 0]))):=Jpa (fun w1 h1=>by
  have:=Za (some ⟨g,off,none⟩) n cap l 0 4 w1 h1 (by decide) (by decide) (by omega) (by omega)
  rwa [XW l 0 (by omega)] at this)
 have HG2:Hid (∀w1,Ji w1 (some ⟨g,off,none⟩) n cap l→Calls Tryz.prog 88 #[.slice (some ⟨g,off,none⟩) n cap,.int .i64 4,.int .i64 2] w1 (Jh w1 (.tuple #[.int .u64 (w2 l 4),.int .i64 0]))):=Jpa (fun w1 h1=>by
  have:=Za (some ⟨g,off,none⟩) n cap l 4 2 w1 h1 (by decide) (by decide) (by omega) (by omega)
  rwa [JY l 4 (by omega)] at this)
 have HER:Hid (Xk l=if w4 l 0/268435456≠6 then 50 else 0):=Jpa (by unfold Xk;rw[hlen,if_neg h40])
 have HA:Hid (Jnf l=(Jpt (.int .u8 (w4 l 0/1048576%256)) (.int .u32 (w4 l 0%1048576)) (.int .u16 (w2 l 4)) (.int .u8 (l.getD 6 0)) (.int .u8 (l.getD 7 0)) (.string (strOfNums ((l.drop 8).take 16))) (.string (strOfNums ((l.drop 24).take 16))):Array Value)):=Jpa rfl
 have HP8:Hid (∀w1,Ji w1 (some ⟨g,off,none⟩) n cap l→(convert 22 9 (.slice (Jk (some ⟨g,off,none⟩) 8 cap 1) (24-8) (cap-8))).run Tryz.prog w1=.ok (.string (strOfNums ((l.drop 8).take 16))) w1):=Jpa (fun w1 h1=>JR 22 5 Tryz.underlying22 Tryz.underlying5 ((h1.cut 8 (by omega)).take 16 (by omega)) 9 Tryz.underlying9)
 have HP24:Hid (∀w1,Ji w1 (some ⟨g,off,none⟩) n cap l→(convert 22 9 (.slice (Jk (some ⟨g,off,none⟩) 24 cap 1) (40-24) (cap-24))).run Tryz.prog w1=.ok (.string (strOfNums ((l.drop 24).take 16))) w1):=Jpa (fun w1 h1=>JR 22 5 Tryz.underlying22 Tryz.underlying5 ((h1.cut 24 (by omega)).take 16 (by omega)) 9 Tryz.underlying9)
 obtain⟨b6,e6⟩:∃v,l.getD 6 0=v:=⟨_,rfl⟩
 obtain⟨b7,e7⟩:∃v,l.getD 7 0=v:=⟨_,rfl⟩
 have HB6:=Jpa e6
 have HB7:=Jpa e7
 rw[e6,e7] at HA
 clear e6 e7
 obtain⟨v4,e4⟩:∃v,w4 l 0=v:=⟨_,rfl⟩
 obtain⟨v2,e2⟩:∃v,w2 l 4=v:=⟨_,rfl⟩
 rw[e4] at hb4 HG4 HER HA
 rw[e2] at hb2 HG2 HA
 generalize strOfNums ((l.drop 8).take 16)=s1 at*
 generalize strOfNums ((l.drop 24).take 16)=s2 at*
 unfold Jdf at HB HC
 have HR0:=Jpa (HR.out.alloc (.cells JpM 109))
 clear hr hc e4 e2
 go_enter Tryz.func146,Tryz.ntmps146
 go_wp2_with fail
 generalize (w.alloc (.cells JpM 109))=y0 at*
 refine Jpc (HG4.out _ HR0.out) ?_
 rintro e y1 ⟨rfl,hb⟩
 have HR1:=Jpa (HR0.out.below hb)
 have HB1:=Jpa (Jo3 HB.out hb)
 have HC1:=Jpa ((hb.block _ (Jpb HC.out).1).trans HC.out)
 clear hb HB HC HR0 HG4
 have hrf:Jg y1 w.heap.size 7=true:=by rw[Jc _ _ _ _ _ HC1.out];rfl
 by_cases h6:v4/268435456=6
 rotate_left
 ·have h6':(v4/268435456 != 6)=true:=by simpa using h6
  have HE:Hid (Jj9 l=.tuple #[.agg Jdf,.int .i64 50]):=Jpa (by unfold Jj9;rw[HER.out,if_pos h6,if_neg (by decide)])
  go_wp2_with fail
  exact Jgw w.heap.size Jdf rfl rfl (XZ HC1.out) rfl HE.out (below_setRow HB1.out (Jpf _) _)
 have h6':(v4/268435456 != 6)=false:=by simpa using h6
 have HE:Hid (Jj9 l=.tuple #[.agg (Jnf l),.int .i64 0]):=Jpa (by
  have e0:Xk l=0:=by rw[HER.out];simp[h6]
  unfold Jj9;rw[if_pos e0])
 clear HER
 go_wp2_with fail
 refine Jpc (HG2.out _ HR1.out) ?_
 rintro e y2 ⟨rfl,hb⟩
 have HR2:=Jpa (HR1.out.below hb)
 have HB2:=Jpa (Jo3 HB1.out hb)
 have HC2:=Jpa ((hb.block _ (Jpb HC1.out).1).trans HC1.out)
 clear hb HB1 HC1 HR1 HG2 hrf
 have hle:=HR2.out.le
 have hs1:=fun w=>JW (P:=Tryz.prog) 22 (some ⟨g,off,none⟩) n cap 1 elemBytes sizeBytes 8 24 8 24 rfl rfl (by omega) (by omega) w
 have hs2:=fun w=>JW (P:=Tryz.prog) 22 (some ⟨g,off,none⟩) n cap 1 elemBytes sizeBytes 24 40 24 40 rfl rfl (by omega) (by omega) w
 generalize Jk (some ⟨g,off,none⟩) 8 cap 1=a1 at*
 generalize Jk (some ⟨g,off,none⟩) 24 cap 1=a2 at*
 clear hle
 go_wp2_with fail
 refine QI 22 (by kernel_rfl) (by kernel_rfl) ?_
 obtain⟨g',off',hop,hgx,hcx⟩:=HR2.out.here (by omega)
 cases hop
 have hc6:=hcx 6 (by omega)
 have hc7:=hcx 7 (by omega)
 rw[HB6.out] at hc6
 rw[HB7.out] at hc7
 have hp8:=fun x:Jz y2=>HP8.out x.world (HR2.out.later x)
 have hp24:=fun x:Jz y2=>HP24.out x.world (HR2.out.later x)
 clear hcx
 simp only[List.take_succ_cons,List.take_zero]
 repeat go_big_quiet_step (fail)
 refine wpQuiet_nil ?_
 intro x
 simp only[List.drop_succ_cons,List.drop_zero]
 have HB3:=Jpa (Jo3 HB2.out x.below)
 have HC3:=Jpa ((x.below.block _ (Jpb HC2.out).1).trans HC2.out)
 clear hs1 hs2 hc6 hc7 hp8 hp24 HB2 HC2 HR2
 have hrf:Jg x.world w.heap.size 7=true:=by rw[Jc _ _ _ _ _ HC3.out];rfl
 generalize x.world=y3 at*
 go_wp2_with fail
 exact Jgw w.heap.size (Jnf l) rfl rfl (by rw[HA.out];exact XZ HC3.out) rfl HE.out (below_setRow HB3.out (Jpf _) _)
theorem Ja6 (oa:Option Addr)(n cap:Nat)(l:List Int)(w:World)(hr:Ji w oa n cap l)(hn:n≤1000000):Calls Tryz.prog 116 #[.slice oa n cap] w (J4 w l):=by
 have hlen:=hr.len
 cases oa with
 |none=>
  have h0:n=0:=by
   rcases hr.at' with h|⟨g,off,e,-⟩
   ·exact h
   ·cases e
  subst h0
  have hl:l=[]:=List.eq_nil_of_length_eq_zero hlen
  subst hl
  refine(Tryz.bytes_Clone_nil 0 cap w).mono ?_
  rintro e w' ⟨rfl,rfl⟩
  exact⟨none,0,rfl,JF.nil _ _ _,Jpd _ _⟩
 |some a=>
  refine(Tryz.bytes_Clone_at a n cap l w hlen (by omega) (fun i hi=>by
   rcases hr.at' with h|⟨g,off,e,-,hc⟩
   ·omega
   ·cases e;rw[Addr.add_lit];exact hc i hi)).mono ?_
  rintro e w' ⟨v',rfl,ho,-,hb⟩
  obtain⟨oa',cap',rfl,ho'⟩:=JF.of_row ho
  subst hlen
  exact⟨oa',cap',rfl,ho',hb⟩
theorem Je {w w':World}{b:Nat}(h:Below w.heap.size w w')(hb:b<w.heap.size)(q:Addr)(e:q.block=b):w'.cell? q=w.cell? q:=h.cell (p:=q) (by omega)
structure QN where
 k:Int
 a:Option Addr
 m:Nat
 c:Nat
def Xi (es:List QN):List Value:=es.flatMap fun e=>[.int .u8 e.k,.slice e.a e.m e.c]
theorem Jgx (es:List QN)(e:QN):Xi (es++[e])=Xi es++[.int .u8 e.k,.slice e.a e.m e.c]:=by simp[Xi]
theorem JaL:∀(es:List QN) (i:Nat) (e:QN),es[i]? =some e→(Xi es)[2*i]? =some (.int .u8 e.k)∧(Xi es)[2*i+1]? =some (.slice e.a e.m e.c)
 |[],i,e,h=>by simp at h
 |x::es,0,e,h=>by
  obtain rfl:x=e:=by simpa using h
  exact⟨rfl,rfl⟩
 |x::es,i+1,e,h=>by
  have:=JaL es i e (by simpa using h)
  have hc:Xi (x::es)=.int .u8 x.k::.slice x.a x.m x.c::Xi es:=by simp[Xi]
  rw[hc]
  exact⟨by rw[show 2*(i+1)=2*i+1+1 by omega];simpa using this.1,by rw[show 2*(i+1)+1=(2*i+1)+1+1 by omega];simpa using this.2⟩
structure JiO (w:World)(lo:Nat)(oe:Option Addr)(e:QN)(x:Int×List Int):Prop where
 k:e.k=x.1
 rd:Ji w e.a e.m e.c x.2
 blk:∀a,e.a=some a→lo≤a.block∧a.block<w.heap.size∧∀b,oe=some b→b.block≠a.block
structure J2 (w:World)(lo:Nat)(oe:Option Addr)(ce:Nat)(xs:XV)(es:List QN):Prop where
 own:JF w lo 2 oe xs.length ce (Xi es)
 len:es.length=xs.length
 each:∀(i:Nat) e x,es[i]? =some e→xs[i]? =some x→JiO w lo oe e x
theorem JiO.keep {w w':World}{lo:Nat}{oe:Option Addr}{e:QN}{x:Int×List Int}(h:JiO w lo oe e x)(hs:w.heap.size≤w'.heap.size)(hk:∀a,e.a=some a→w'.heap[a.block]? =w.heap[a.block]?):JiO w' lo oe e x:=
 ⟨h.k,h.rd.keep hs (fun a ha _=>hk a ha),fun a ha=>⟨(h.blk a ha).1,Jpe (h.blk a ha).2.1 hs,(h.blk a ha).2.2⟩⟩
theorem J2.below {w w':World}{lo:Nat}{oe:Option Addr}{ce:Nat}{xs:XV}{es:List QN}(h:J2 w lo oe ce xs es)(hb:Below w.heap.size w w'):J2 w' lo oe ce xs es:=
 ⟨h.own.below hb,h.len,fun i e x h1 h2=>(h.each i e x h1 h2).keep hb.size (fun a ha=>hb.block _ ((h.each i e x h1 h2).blk a ha).2.1)⟩
theorem J2.mono {w:World}{lo lo':Nat}{oe:Option Addr}{ce:Nat}{xs:XV}{es:List QN}(h:J2 w lo oe ce xs es)(hl:lo'≤lo):J2 w lo' oe ce xs es:=
 ⟨h.own.mono hl,h.len,fun i e x h1 h2=>⟨(h.each i e x h1 h2).k,(h.each i e x h1 h2).rd,fun a ha=>⟨Nat.le_trans hl ((h.each i e x h1 h2).blk a ha).1,((h.each i e x h1 h2).blk a ha).2⟩⟩⟩
theorem J2.other {w:World}{lo:Nat}{oe:Option Addr}{ce:Nat}{xs:XV}{es:List QN}(h:J2 w lo oe ce xs es){r:Nat}(hr:r<lo)(o:Nat)(v:Value):J2 (w.setCell ⟨r,o,none⟩ v) lo oe ce xs es:=
 ⟨h.own.other (fun a ha=>by have:=(h.own.lt ha).1;show a.block≠r;omega) v,h.len,fun i e x h1 h2=>(h.each i e x h1 h2).keep (by simp) (fun a ha=>Below.heap_setCell _ _ _ _ (by have:=((h.each i e x h1 h2).blk a ha).1;show a.block≠r;omega))⟩
theorem J2.nil (w:World)(lo:Nat):J2 w lo none 0 [] []:=⟨JF.nil _ _ _,rfl,fun i e x h _=>by simp at h⟩
theorem J2.snoc {w w':World}{lo:Nat}{oe oe':Option Addr}{ce ce':Nat}{xs:XV}{es:List QN}(h:J2 w lo oe ce xs es)(e:QN)(x:Int×List Int)(he:JiO w lo oe e x)
 (ho:JF w' lo 2 oe' (xs.length+1) ce' (Xi es++[.int .u8 e.k,.slice e.a e.m e.c]))(hg:w.grownBy w' (oe.map Addr.block))(hd:∀a,oe'=some a→oe=some a∨w.heap.size≤a.block):J2 w' lo oe' ce' (xs++[x]) (es++[e]):=by
 have up:∀(e:QN) (x:Int×List Int),JiO w lo oe e x→JiO w' lo oe' e x:=fun e x h1=>by
  refine⟨h1.k,h1.rd.keep hg.size (fun a ha hlt=>hg.block _ hlt (fun hc=>?_)),fun a ha=>⟨(h1.blk a ha).1,Jpe (h1.blk a ha).2.1 hg.size,fun b hb=>?_⟩⟩
  ·obtain⟨b,hb,hb2⟩:=Option.map_eq_some_iff.1 hc.symm
   exact(h1.blk a ha).2.2 b hb hb2
  ·rcases hd b hb with h2|h2
   ·exact(h1.blk a ha).2.2 b h2
   ·have:=(h1.blk a ha).2.1;omega
 refine⟨by rw[Jgx,List.length_append,List.length_singleton];exact ho,by simp[h.len],fun i e1 x1 h1 h2=>?_⟩
 rcases Nat.lt_or_ge i es.length with hlt|hge
 ·rw[List.getElem?_append_left hlt] at h1
  rw[List.getElem?_append_left (by have:=h.len;omega)] at h2
  exact up _ _ (h.each i e1 x1 h1 h2)
 ·rw[List.getElem?_append_right hge] at h1
  rw[List.getElem?_append_right (by have:=h.len;omega)] at h2
  have hz:i-es.length=0:=by
   rcases Nat.eq_zero_or_pos (i-es.length) with e|e
   ·exact e
   ·rw[List.getElem?_eq_none (by simp;omega)] at h1;cases h1
  rw[hz] at h1
  rw[show i-xs.length=0 by have:=h.len;omega] at h2
  obtain rfl:e=e1:=by simpa using h1
  obtain rfl:x=x1:=by simpa using h2
  exact up _ _ he
theorem Jow (B:Nat)(l:List Int):JiB B (JmO l):=fun lo hi v w1 w2 ⟨ob,cb,e,ho,hl⟩ hh hk=>⟨ob,cb,e,ho.keep hk.size (fun a ha=>hk.own _ (ho.lt ha).1 (hl a ha)),hl⟩
structure Jea (w0 y:World)(r:Nat)(xs:XV)(p:Int)(i:Nat)(A:Option Addr)(n cap:Nat)(l:List Int):Prop where
 st:∃oe ce es,y.heap[r]? =some (.cells #[.slice oe xs.length ce,p,.slice A n cap,.int .i64 (i:Int)] 261 (0,0))∧J2 y (r+1) oe ce xs es
 rd:Ji y A n cap l
 ra:∀a,A=some a→a.block<r
 out:Below w0.heap.size w0 y
 lo:w0.heap.size≤r
 p:0≤p∧p<256
 i:i≤n
end
end Go.Proofs.YtkgjbipfhhjlpaaGreatDoor
