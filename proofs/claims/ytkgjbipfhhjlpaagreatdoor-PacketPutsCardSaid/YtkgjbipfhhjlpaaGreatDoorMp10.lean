import Derived.Test.YtkgjbipfhhjlpaaGreatDoorMp9
import Derived.Test.YtkgjbipfhhjlpaaGreatDoorMp8
import Derived.Lib.SlBuf
import Derived.Great.BuildSlice
set_option linter.unusedVariables false
set_option linter.unusedSimpArgs false
set_option maxRecDepth 100000
set_option maxHeartbeats 32000000
namespace Go.Proofs.YtkgjbipfhhjlpaaGreatDoor
section
open Go.RowKit
theorem results_part3 {P:Program}{fn:Func}{p q r:Tmp}{ty:TypeId}(h:fn.results=#[.cell p ty,.tmp q,.tmp r])(tmps:Array Value)(w:World)(b n:Nat)(d:TypeDesc)(v u:Value)
 (hu:P.underlying ty=some d)(hd:(match d with| .struct _| .array _ _=>true|_=>false)=true)(hi:(P.info? ty).map (·.size)=some n)
 (hp:tmps.getD p undef=.pointer (some ⟨b,0,none⟩))(hq:tmps.getD q undef=v)(hr:tmps.getD r undef=u)(cs:Array Value)(hc:partOf w b 0 n=cs)(hs:cs.size=n):
 (results fn tmps).run P w=.ok (.tuple #[.agg cs,v,u]) w:=by
 subst hc
 have hp':tmps[p]?.getD undef=.pointer (some ⟨b,0,none⟩):=by simpa using hp
 have hq':tmps[q]?.getD undef=v:=by simpa using hq
 have hr':tmps[r]?.getD undef=u:=by simpa using hr
 simp[results,h,hp',hq',hr',asAddr,run_loadVar_part w b 0 n ty d hu hd hi hs]
def ipZ:Array Value:=#[.int .u8 0,.int .u16 0,.int .u16 0,.bool false,.bool false,.int .u16 0,.int .u8 0,.int .u8 0,.int .u8 0,.int .u8 0,.int .u8 0,.int .u8 0,.int .u8 0,.int .u8 0,.int .u8 0,.int .u8 0,.slice none 0 0]
def ipNo (err:Int):Value:=.tuple #[.agg ipZ,.int .i64 0,.int .i64 err]
theorem ipNo_ret {w w':World}{err:Int}{tmps:Array Value}(b:Nat)(hp:tmps.getD 2 undef=.pointer (some ⟨b,0,none⟩))(h3:tmps.getD 3 undef=.int .i64 0)(h4:tmps.getD 4 undef=.int .i64 err)(hc:w'.heap[b]? =some (.cells ipZ 113 (0,0)))(hb:Below w.heap.size w w'):
 bodyPost Tryz.prog Tryz.f52 (RetAt w (ipNo err)) .ret { tmps:=tmps,defers:=[] } w':=
 bodyPost_ret (v:=ipNo err) (results_part3 rfl _ _ b 17 _ _ _ Tryz.underlying113 rfl info_iph hp h3 h4 ipZ (by rw[partOf_row _ _ _ _ _ _ _ hc];rfl) rfl) rfl (.mk rfl hb)
theorem ipparse_short (oa:Option Addr)(n cap:Nat)(w:World)(h:n<20):Calls Tryz.prog 52 #[.slice oa n cap] w (RetAt w (ipNo 10)):=by
 have h':(n:Int)<20:=by omega
 have HB:=Lib.hid (Below.all (Below.refl w.heap.size w) (.cells ipZ 113))
 have HC:Hid ((w.alloc (.cells ipZ 113)).heap[w.heap.size]? =some (.cells ipZ 113 (0,0))):=Lib.hid (heap_alloc_new w _)
 unfold ipNo
 unfold ipZ at*
 go_enter Tryz.func52,Tryz.ntmps52
 go_wp2_with fail
 exact ipNo_ret w.heap.size rfl rfl rfl HC.out HB.out
theorem quietAt_value {P:Program}{o:Oper}{a:Act}{C:World→Prop}{w:World}{v:Value}(h:(execOp a.eval o).run P w=.ok (.value v) w):o.quietAt P a C w v:=by
 unfold Oper.quietAt
 rw[h]
 exact⟨rfl,rfl⟩
theorem run_array4 {P:Program}(t e:TypeId)(ht:P.underlying t=some (.array 4 e))(a:Option Addr)(n c:Nat)(h:4≤n)(w:World):(Instr.arrayAt t (.slice a n c)).run P w=.ok (.pointer a) w:=by
 have h':¬n<4:=by omega
 simp[Instr.arrayAt,Sem.run_bind,run_underlying ht,h',Result.andThen]
def bitOf (f:Int)(k:Int):Bool:=decide (f/k%2=1)
def ipA (l:List Int)(oa:Option Addr)(cap:Nat):Array Value:=#[.int .u8 (l.getD 1 0),.int .u16 (w2 l 2),.int .u16 (w2 l 4),.bool (bitOf (w2 l 6) 16384),.bool (bitOf (w2 l 6) 8192),.int .u16 (w2 l 6%8192),.int .u8 (l.getD 8 0),.int .u8 (l.getD 9 0),
 .int .u8 (l.getD 12 0),.int .u8 (l.getD 13 0),.int .u8 (l.getD 14 0),.int .u8 (l.getD 15 0),.int .u8 (l.getD 16 0),.int .u8 (l.getD 17 0),.int .u8 (l.getD 18 0),.int .u8 (l.getD 19 0),.slice oa (ipHl l-20) cap]
def IpPost (w:World)(l:List Int):Ending→World→Prop:=fun e w'=>(ipErr l≠0∧e=.returned (ipNo (ipErr l))∧Below w.heap.size w w')∨
 (ipErr l=0∧∃oa cap,e=.returned (.tuple #[.agg (ipA l oa cap),.int .i64 (ipHl l:Int),.int .i64 0])∧Owns w' w.heap.size 1 oa (ipHl l-20) cap (((l.drop 20).take (ipHl l-20)).map (.int .u8))∧Below w.heap.size w w')
theorem IpPost.err {w w':World}{l:List Int}{v:Ending}{err:Int}(h:RetAt w (ipNo err) v w')(he:ipErr l=err)(h0:err≠0):IpPost w l v w':=by
 subst he
 exact .inl ⟨h0,h.1,h.2⟩
theorem ipNo_post {w w':World}{l:List Int}{err:Int}{tmps:Array Value}(b:Nat)(he:ipErr l=err)(h0:err≠0)(hp:tmps.getD 2 undef=.pointer (some ⟨b,0,none⟩))(h3:tmps.getD 3 undef=.int .i64 0)(h4:tmps.getD 4 undef=.int .i64 err)(hc:w'.heap[b]? =some (.cells ipZ 113 (0,0)))(hb:Below w.heap.size w w'):
 bodyPost Tryz.prog Tryz.f52 (IpPost w l) .ret { tmps:=tmps,defers:=[] } w':=
 bodyPost_ret (v:=ipNo err) (results_part3 rfl _ _ b 17 _ _ _ Tryz.underlying113 rfl info_iph hp h3 h4 ipZ (by rw[partOf_row _ _ _ _ _ _ _ hc];rfl) rfl) rfl (.err (.mk rfl hb) he h0)
theorem ipOk_post {w w':World}{l:List Int}{cs:Array Value}{nv:Int}{tmps:Array Value}(b:Nat)(hp:tmps.getD 2 undef=.pointer (some ⟨b,0,none⟩))(h3:tmps.getD 3 undef=.int .i64 nv)(h4:tmps.getD 4 undef=.int .i64 0)(hc:partOf w' b 0 17=cs)(hs:cs.size=17)
 (hpost:IpPost w l (.returned (.tuple #[.agg cs,.int .i64 nv,.int .i64 0])) w'):bodyPost Tryz.prog Tryz.f52 (IpPost w l) .ret { tmps:=tmps,defers:=[] } w':=
 bodyPost_ret (v:=.tuple #[.agg cs,.int .i64 nv,.int .i64 0]) (results_part3 rfl _ _ b 17 _ _ _ Tryz.underlying113 rfl info_iph hp h3 h4 cs hc hs) rfl hpost
attribute [local go_sem ↓] Go.wp_at_zero Go.wp_at_succ in
theorem ipparse_long (g off n cap:Nat)(l:List Int)(w:World)(hr:Reads w (some ⟨g,off,none⟩) n cap l)(hn:20≤n)(hn2:n≤100000):
 Calls Tryz.prog 52 #[.slice (some ⟨g,off,none⟩) n cap] w (IpPost w l):=by
 have hlen:=hr.len
 have HR:=Lib.hid hr
 obtain⟨g',off',hop,hgl,hc⟩:=hr.here (by omega)
 cases hop
 have hc0:=hc 0 (by omega)
 have hc1:=hc 1 (by omega)
 have hc8:=hc 8 (by omega)
 have hc9:=hc 9 (by omega)
 have hx0:=hr.getD 0
 rw[Nat.add_zero] at hc0
 obtain⟨x0,e0⟩:∃x:Nat,l.getD 0 0=x:=⟨(l.getD 0 0).toNat,by omega⟩
 rw[e0] at hc0 hx0
 have hx0':x0<256:=by omega
 have HW6:=Lib.hid (fun(w':World) (h:Reads w' (some ⟨g,off,none⟩) n cap l)=>word_any (some ⟨g,off,none⟩) n cap l 6 w' h (by omega) (by omega))
 have hand:=u8_low4 x0 hx0'
 have hlo:x0%16<16:=by omega
 have HHL:Hid (ipHl l=x0%16*4):=Lib.hid (by unfold ipHl;rw[e0];omega)
 have HE0:Hid (l.getD 0 0=x0):=Lib.hid e0
 have HB:=Lib.hid (Below.all (Below.refl w.heap.size w) (.cells ipZ 113))
 have HC:Hid ((w.alloc (.cells ipZ 113)).heap[w.heap.size]? =some (.cells ipZ 113 (0,0))):=Lib.hid (heap_alloc_new w _)
 have h20:¬((n:Int)<20):=by omega
 clear hr e0 hc
 generalize x0%16=lo at*
 unfold ipZ at HB HC
 go_enter Tryz.func52,Tryz.ntmps52
 have HER:Hid (ipErr l=if x0/16≠4 then 50 else if lo*4<20 then 51 else if n<lo*4 then 10 else if 32768≤w2 l 6∨w2 l 2<((lo*4:Nat):Int) then 51 else if wholeB (l.take (lo*4))=false then 52 else 0):=Lib.hid (by
  unfold ipErr
  rw[HHL.out,HE0.out,hlen,if_neg (show¬n<20 by omega)]
  by_cases h:x0/16=4
  ·rw[if_neg (show¬(x0:Int)/16≠4 by omega),if_neg (show¬x0/16≠4 by omega)]
  ·rw[if_pos (show(x0:Int)/16≠4 by omega),if_pos h])
 by_cases hv:x0/16=4
 rotate_left
 ·have hv':¬((x0:Int)/16=4):=by omega
  have hv2:(((x0:Int)/16)==4)=false:=by simp;omega
  have HE:Hid (ipErr l=50):=Lib.hid (by rw[HER.out,if_pos hv])
  clear HER
  go_wp2_with fail
  exact ipNo_post w.heap.size HE.out (by decide) rfl rfl rfl HC.out HB.out
 have HER1:Hid (ipErr l=if lo*4<20 then 51 else if n<lo*4 then 10 else if 32768≤w2 l 6∨w2 l 2<((lo*4:Nat):Int) then 51 else if wholeB (l.take (lo*4))=false then 52 else 0):=Lib.hid (by rw[HER.out,if_neg (by omega)])
 clear HER
 have hv':(x0:Int)/16=4:=by omega
 by_cases h51:lo*4<20
 ·have h51':(lo:Int)*4<20:=by omega
  have HE:Hid (ipErr l=51):=Lib.hid (by rw[HER1.out,if_pos h51])
  clear HER1
  go_wp2_with fail
  exact ipNo_post w.heap.size HE.out (by decide) rfl rfl rfl HC.out HB.out
 have HER2:Hid (ipErr l=if n<lo*4 then 10 else if 32768≤w2 l 6∨w2 l 2<((lo*4:Nat):Int) then 51 else if wholeB (l.take (lo*4))=false then 52 else 0):=Lib.hid (by rw[HER1.out,if_neg h51])
 clear HER1
 have h51':¬((lo:Int)*4<20):=by omega
 by_cases hln:n<lo*4
 ·have hln':(n:Int)<(lo:Int)*4:=by omega
  have HE:Hid (ipErr l=10):=Lib.hid (by rw[HER2.out,if_pos hln])
  clear HER2
  go_wp2_with fail
  exact ipNo_post w.heap.size HE.out (by decide) rfl rfl rfl HC.out HB.out
 have HER3:Hid (ipErr l=if 32768≤w2 l 6∨w2 l 2<((lo*4:Nat):Int) then 51 else if wholeB (l.take (lo*4))=false then 52 else 0):=Lib.hid (by rw[HER2.out,if_neg hln])
 clear HER2
 have hln':¬((n:Int)<(lo:Int)*4):=by omega
 go_wp2_with fail
 have HR1:=Lib.hid (HR.out.alloc (.cells #[.int .u8 0,.int .u16 0,.int .u16 0,.bool false,.bool false,.int .u16 0,.int .u8 0,.int .u8 0,.int .u8 0,.int .u8 0,.int .u8 0,.int .u8 0,.int .u8 0,.int .u8 0,.int .u8 0,.int .u8 0,.slice none 0 0] 113))
 generalize w.alloc (.cells #[.int .u8 0,.int .u16 0,.int .u16 0,.bool false,.bool false,.int .u16 0,.int .u8 0,.int .u8 0,.int .u8 0,.int .u8 0,.int .u8 0,.int .u8 0,.int .u8 0,.int .u8 0,.int .u8 0,.int .u8 0,.slice none 0 0] 113)=w1 at*
 refine Calls.mono (HW6.out _ HR1.out) ?_
 rintro e w2' ⟨rfl,hb2⟩
 have HB2:=Lib.hid (Below.via HB.out hb2)
 have HR2:=Lib.hid (HR1.out.below hb2)
 have HC2:Hid (w2'.heap[w.heap.size]? =some (.cells ipZ 113 (0,0))):=Lib.hid ((hb2.block _ (Array.getElem?_eq_some_iff.1 HC.out).1).trans HC.out)
 clear hb2 HB HC HR1 HW6 hand
 go_wp2_with fail
 have hle:=HR.out.le
 obtain⟨y1,hy1⟩:∃y,l.getD 1 0=y:=⟨_,rfl⟩
 have HY1:=Lib.hid hy1
 obtain⟨y8,hy8⟩:∃y,l.getD 8 0=y:=⟨_,rfl⟩
 have HY8:=Lib.hid hy8
 obtain⟨y9,hy9⟩:∃y,l.getD 9 0=y:=⟨_,rfl⟩
 have HY9:=Lib.hid hy9
 obtain⟨y12,hy12⟩:∃y,l.getD 12 0=y:=⟨_,rfl⟩
 have HY12:=Lib.hid hy12
 obtain⟨y13,hy13⟩:∃y,l.getD 13 0=y:=⟨_,rfl⟩
 have HY13:=Lib.hid hy13
 obtain⟨y14,hy14⟩:∃y,l.getD 14 0=y:=⟨_,rfl⟩
 have HY14:=Lib.hid hy14
 obtain⟨y15,hy15⟩:∃y,l.getD 15 0=y:=⟨_,rfl⟩
 have HY15:=Lib.hid hy15
 obtain⟨y16,hy16⟩:∃y,l.getD 16 0=y:=⟨_,rfl⟩
 have HY16:=Lib.hid hy16
 obtain⟨y17,hy17⟩:∃y,l.getD 17 0=y:=⟨_,rfl⟩
 have HY17:=Lib.hid hy17
 obtain⟨y18,hy18⟩:∃y,l.getD 18 0=y:=⟨_,rfl⟩
 have HY18:=Lib.hid hy18
 obtain⟨y19,hy19⟩:∃y,l.getD 19 0=y:=⟨_,rfl⟩
 have HY19:=Lib.hid hy19
 obtain⟨LO,hLO⟩:∃L,(l.drop 20).take (lo*4-20)=L:=⟨_,rfl⟩
 have HLO:=Lib.hid hLO
 have hLOn:LO.length=lo*4-20:=by rw[←hLO,List.length_take,List.length_drop];omega
 obtain⟨w2a,hw2a⟩:∃y,w2 l 2=y:=⟨_,rfl⟩
 obtain⟨w4a,hw4a⟩:∃y,w2 l 4=y:=⟨_,rfl⟩
 have HW2a:=Lib.hid hw2a
 have HW4a:=Lib.hid hw4a
 have hbd6:=w2_bd HR.out.byte 6
 obtain⟨f,hf⟩:∃f:Nat,w2 l 6=f:=⟨(w2 l 6).toNat,by omega⟩
 rw[hf] at hbd6
 have hf16:f<65536:=by omega
 have HFL:=Lib.hid hf
 have HG2:Hid (g<w2'.heap.size):=Lib.hid (Nat.lt_of_lt_of_le hgl HB2.out.size)
 have HSB:Hid (∀w':World,Below w2'.heap.size w2' w'→(fun w'=>(w'.cell? ⟨g,off+1,none⟩=some (.int .u8 y1)∧w'.cell? ⟨g,off+8,none⟩=some (.int .u8 y8)∧w'.cell? ⟨g,off+9,none⟩=some (.int .u8 y9)∧partOf w' g (off+12) 4=#[.int .u8 y12,.int .u8 y13,.int .u8 y14,.int .u8 y15]∧partOf w' g (off+16) 4=#[.int .u8 y16,.int .u8 y17,.int .u8 y18,.int .u8 y19])∧Below w2'.heap.size w2' w') w'):=Lib.hid (fun w' hb=>by
  obtain⟨g',off',hop,-,hc⟩:=(HR2.out.below hb).here (by omega)
  cases hop
  have c:=fun(k:Nat) (y:Int) (h:k<n) (e:l.getD k 0=y)=>e▸hc k h
  exact⟨⟨c 1 _ (by omega) hy1,c 8 _ (by omega) hy8,c 9 _ (by omega) hy9,partOf_cells4 (c 12 _ (by omega) hy12) (c 13 _ (by omega) hy13) (c 14 _ (by omega) hy14) (c 15 _ (by omega) hy15),partOf_cells4 (c 16 _ (by omega) hy16) (c 17 _ (by omega) hy17) (c 18 _ (by omega) hy18) (c 19 _ (by omega) hy19)⟩,hb⟩)
 have HS0:=Lib.hid (HSB.out w2' (Below.refl _ _))
 have HWa:Hid (∀w':World,Reads w' (some ⟨g,off,none⟩) n cap l→Calls Tryz.prog 104 #[.slice (some ⟨g,off,none⟩) n cap,.int .i64 2] w' (RetAt w' (.int .u16 w2a))):=Lib.hid fun w' h=>by rw[←hw2a];exact word_any _ n cap l 2 w' h (by omega) (by omega)
 have HWb:Hid (∀w':World,Reads w' (some ⟨g,off,none⟩) n cap l→Calls Tryz.prog 104 #[.slice (some ⟨g,off,none⟩) n cap,.int .i64 4] w' (RetAt w' (.int .u16 w4a))):=Lib.hid fun w' h=>by rw[←hw4a];exact word_any _ n cap l 4 w' h (by omega) (by omega)
 have HCL:Hid (∀w':World,Reads w' (some ⟨g,off,none⟩) n cap l→Calls Tryz.prog 105 #[.slice (cutAddr (some ⟨g,off,none⟩) 20 cap 1) (lo*4-20) (cap-20)] w' (NewBytes w' LO)):=Lib.hid fun w' h=>by rw[←hLO];exact Bits.clone_any _ _ _ _ w' ((h.cut 20 (by omega)).take (lo*4-20) (by omega)) (by omega)
 have hcut12:∀w,(Instr.slice 22 (.slice (some ⟨g,off,none⟩) n cap) (some (.int .i64 12)) none none).run Tryz.prog w=.ok (.slice (some ⟨g,off+12,none⟩) (n-12) (cap-12)) w:=fun w=>by
  have:=run_cut (P:=Tryz.prog) 22 (some ⟨g,off,none⟩) n cap 1 Bits.elemBytes Bits.sizeBytes 12 12 rfl (by omega) w
  rwa [show cutAddr (some ⟨g,off,none⟩) 12 cap 1=some ⟨g,off+12,none⟩ by unfold cutAddr;rw[if_neg (by omega)];rfl] at this
 have hcut16:∀w,(Instr.slice 22 (.slice (some ⟨g,off,none⟩) n cap) (some (.int .i64 16)) none none).run Tryz.prog w=.ok (.slice (some ⟨g,off+16,none⟩) (n-16) (cap-16)) w:=fun w=>by
  have:=run_cut (P:=Tryz.prog) 22 (some ⟨g,off,none⟩) n cap 1 Bits.elemBytes Bits.sizeBytes 16 16 rfl (by omega) w
  rwa [show cutAddr (some ⟨g,off,none⟩) 16 cap 1=some ⟨g,off+16,none⟩ by unfold cutAddr;rw[if_neg (by omega)];rfl] at this
 have hcut20:∀w,(Instr.slice 22 (.slice (some ⟨g,off,none⟩) n cap) (some (.int .i64 20)) (some (.int .i64 ((lo:Int)*4))) none).run Tryz.prog w=.ok (.slice (cutAddr (some ⟨g,off,none⟩) 20 cap 1) (lo*4-20) (cap-20)) w:=fun w=>
  run_cutBoth (P:=Tryz.prog) 22 (some ⟨g,off,none⟩) n cap 1 Bits.elemBytes Bits.sizeBytes 20 (lo*4) 20 ((lo:Int)*4) rfl (by omega) (by omega) (by omega) w
 have harr12:=run_array4 (P:=Tryz.prog) 111 _ Tryz.underlying111 (some ⟨g,off+12,none⟩) (n-12) (cap-12) (by omega)
 have harr16:=run_array4 (P:=Tryz.prog) 111 _ Tryz.underlying111 (some ⟨g,off+16,none⟩) (n-16) (cap-16) (by omega)
 have hb14:=u16_bit f 14 hf16 (by omega)
 have hb13:=u16_bit f 13 hf16 (by omega)
 have hb15:=u16_bit f 15 hf16 (by omega)
 have hfl:=u16_low13 f hf16
 rw[show((2^14:Nat):Int)=16384 from rfl] at hb14
 rw[show((2^13:Nat):Int)=8192 from rfl] at hb13
 rw[show((2^15:Nat):Int)=32768 from rfl] at hb15
 have HP14:Hid (decide ((0:Int)<bits .and .u16 (f:Int) 16384)=bitOf (w2 l 6) 16384):=Lib.hid (by
  rw[hb14,hf];unfold bitOf
  by_cases h:f/2^14%2=1
  ·rw[if_pos h,decide_eq_true (by omega),decide_eq_true (by omega)]
  ·rw[if_neg h,decide_eq_false (by omega),decide_eq_false (by omega)])
 have HP13:Hid (decide ((0:Int)<bits .and .u16 (f:Int) 8192)=bitOf (w2 l 6) 8192):=Lib.hid (by
  rw[hb13,hf];unfold bitOf
  by_cases h:f/2^13%2=1
  ·rw[if_pos h,decide_eq_true (by omega),decide_eq_true (by omega)]
  ·rw[if_neg h,decide_eq_false (by omega),decide_eq_false (by omega)])
 have HP15:Hid (decide ((0:Int)<bits .and .u16 (f:Int) 32768)=decide (32768≤w2 l 6)):=Lib.hid (by
  rw[hb15,hf]
  by_cases h:f/2^15%2=1
  ·rw[if_pos h,decide_eq_true (by omega),decide_eq_true (by omega)]
  ·rw[if_neg h,decide_eq_false (by omega),decide_eq_false (by omega)])
 have HF13:Hid (((f%8192:Nat):Int)=w2 l 6%8192):=Lib.hid (by rw[hf];omega)
 rw[hf]
 clear hb14 hb13 hb15 hc1 hc8 hc9 hLO hw2a hw4a hy1 hy8 hy9 hy12 hy13 hy14 hy15 hy16 hy17 hy18 hy19
 generalize hd14:bits .and .u16 (f:Int) 16384=v14 at*
 generalize hd13:bits .and .u16 (f:Int) 8192=v13 at*
 generalize hd15:bits .and .u16 (f:Int) 32768=v15 at*
 generalize f%8192=fr at*
 have hdd14:=HP14.out
 have hdd13:=HP13.out
 generalize hbdf:bitOf (w2 l 6) 16384=bdf at*
 generalize hbmf:bitOf (w2 l 6) 8192=bmf at*
 have HBDF:=Lib.hid hbdf
 have HBMF:=Lib.hid hbmf
 clear hbdf hbmf
 have hi1:(1:Int)<n:=by omega
 have hi8:(8:Int)<n:=by omega
 have hi9:(9:Int)<n:=by omega
 have RSX:Stable (fun lo hi v w'=>∃ob cb,v=.slice ob LO.length cb∧Owns w' lo 1 ob LO.length cb (LO.map (.int .u8))∧∀a,ob=some a→a.block<hi):=fun lo hi v w1 w2 h hh hb=>by
  obtain⟨ob,cb,e,ho,hl⟩:=h
  exact⟨ob,cb,e,ho.below hb,hl⟩
 refine wp_region_cba 32 (fun lo hi v w'=>∃ob cb,v=.slice ob LO.length cb∧Owns w' lo 1 ob LO.length cb (LO.map (.int .u8))∧∀a,ob=some a→a.block<hi) (.cells #[.int .u8 0,.int .u16 0,.int .u16 0,.bool false,.bool false,.int .u16 0,.int .u8 0,.int .u8 0,.int .u8 0,.int .u8 0,.int .u8 0,.int .u8 0,.int .u8 0,.int .u8 0,.int .u8 0,.int .u8 0,.slice none 0 0] 113) (fun v=>.agg #[.int .u8 y1,.int .u16 w2a,.int .u16 w4a,.bool bdf,.bool bmf,.int .u16 (fr:Int),.int .u8 y8,.int .u8 y9,.int .u8 y12,.int .u8 y13,.int .u8 y14,.int .u8 y15,.int .u8 y16,.int .u8 y17,.int .u8 y18,.int .u8 y19,v]) (by kernel_rfl) (by kernel_rfl) (by kernel_rfl) rfl rfl rfl rfl rfl rfl (by decide) (by decide) (by decide) (by intro cs b h;cases h) (by intro cs b h;cases h) (by kernel_rfl) (by kernel_rfl) (by kernel_rfl) RSX ⟨fun _=>rfl,fun _ _=>by kernel_rfl⟩ ?_
 apply Exists.intro
 refine⟨fun wx hbx=>?_,?_,?_,?_⟩
 ·obtain⟨⟨hk1,hk8,hk9,hk12,hk16⟩,-⟩:=HSB.out wx hbx
  have hgx:g<wx.heap.size:=Nat.lt_of_lt_of_le HG2.out hbx.size
  have HX1:=Lib.hid (fun(x:Later wx)=>HWa.out x.world ((HR2.out.below hbx).later x))
  have HX2:=Lib.hid (fun(x:Later wx)=>HWb.out x.world ((HR2.out.below hbx).later x))
  simp only[List.take_succ_cons,List.take_zero]
  repeat go_big_quiet_step (fail)
  go_big_quiet_step ((go_at_call 104;exact later_call (HX1.out _)))
  repeat go_big_quiet_step (fail)
  go_big_quiet_step ((go_at_call 104;exact later_call (HX2.out _)))
  repeat go_big_quiet_step (fail)
  exact wpQuiet_nil rfl
 ·refine⟨rfl,fun w1 hb1=>.inr ⟨105,#[.slice (cutAddr (some ⟨g,off,none⟩) 20 cap 1) (lo*4-20) (cap-20)],by kernel_rfl,(HCL.out w1 (HR2.out.below hb1)).mono ?_⟩⟩
  rintro e wx ⟨ob,cb,rfl,ho,hb⟩
  exact⟨_,rfl,hb,ob,cb,rfl,ho,fun a ha=>(ho.lt ha).2⟩
 ·rintro lo2 hi2 v1 w3 ⟨ob,cb,rfl,-⟩ w1 hb1
  exact .inl ⟨rfl,fun wy hy=>quietAt_value (by kernel_rfl)⟩
 ·intro lo2 hi2 v1 gb wn hbn hlo hhi hgb hdis hRR hcb
  obtain⟨ob,cb,rfl,ho,hl⟩:=hRR
  have hrf:rowFree wn gb 17=true:=by rw[rowFree_row _ _ _ _ _ hcb];rfl
  rw[hLOn] at*
  have hW2:w.heap.size<w2'.heap.size:=(Array.getElem?_eq_some_iff.1 HC2.out).1
  have hHC:(wn.setRow gb #[.int .u8 y1,.int .u16 w2a,.int .u16 w4a,.bool bdf,.bool bmf,.int .u16 (fr:Int),.int .u8 y8,.int .u8 y9,.int .u8 y12,.int .u8 y13,.int .u8 y14,.int .u8 y15,.int .u8 y16,.int .u8 y17,.int .u8 y18,.int .u8 y19,.slice ob (lo*4-20) cb]).heap[gb]? =some (.cells #[.int .u8 y1,.int .u16 w2a,.int .u16 w4a,.bool bdf,.bool bmf,.int .u16 (fr:Int),.int .u8 y8,.int .u8 y9,.int .u8 y12,.int .u8 y13,.int .u8 y14,.int .u8 y15,.int .u8 y16,.int .u8 y17,.int .u8 y18,.int .u8 y19,.slice ob (lo*4-20) cb] 113 (0,0)):=setRow_heap _ _ _ _ _ _ hcb
  have hHZ:(wn.setRow gb #[.int .u8 y1,.int .u16 w2a,.int .u16 w4a,.bool bdf,.bool bmf,.int .u16 (fr:Int),.int .u8 y8,.int .u8 y9,.int .u8 y12,.int .u8 y13,.int .u8 y14,.int .u8 y15,.int .u8 y16,.int .u8 y17,.int .u8 y18,.int .u8 y19,.slice ob (lo*4-20) cb]).heap[w.heap.size]? =some (.cells ipZ 113 (0,0)):=(setRow_other _ gb _ _ (by omega)).trans ((hbn.block _ hW2).trans HC2.out)
  have HBM:Hid (Below w.heap.size w (wn.setRow gb #[.int .u8 y1,.int .u16 w2a,.int .u16 w4a,.bool bdf,.bool bmf,.int .u16 (fr:Int),.int .u8 y8,.int .u8 y9,.int .u8 y12,.int .u8 y13,.int .u8 y14,.int .u8 y15,.int .u8 y16,.int .u8 y17,.int .u8 y18,.int .u8 y19,.slice ob (lo*4-20) cb])):=Lib.hid (below_setRow (Below.via HB2.out hbn) (by omega) _)
  have HBM2:Hid (Below w2'.heap.size w2' (wn.setRow gb #[.int .u8 y1,.int .u16 w2a,.int .u16 w4a,.bool bdf,.bool bmf,.int .u16 (fr:Int),.int .u8 y8,.int .u8 y9,.int .u8 y12,.int .u8 y13,.int .u8 y14,.int .u8 y15,.int .u8 y16,.int .u8 y17,.int .u8 y18,.int .u8 y19,.slice ob (lo*4-20) cb])):=Lib.hid (below_setRow hbn (by omega) _)
  have HOM:Hid (Owns (wn.setRow gb #[.int .u8 y1,.int .u16 w2a,.int .u16 w4a,.bool bdf,.bool bmf,.int .u16 (fr:Int),.int .u8 y8,.int .u8 y9,.int .u8 y12,.int .u8 y13,.int .u8 y14,.int .u8 y15,.int .u8 y16,.int .u8 y17,.int .u8 y18,.int .u8 y19,.slice ob (lo*4-20) cb]) lo2 1 ob (lo*4-20) cb (LO.map (.int .u8))):=Lib.hid (ho.keep (by simp) fun a ha=>setRow_other _ gb _ _ (by have h1:=(ho.lt ha).1;have h2:=hl a ha;omega))
  have hcl1:(wn.setRow gb #[.int .u8 y1,.int .u16 w2a,.int .u16 w4a,.bool bdf,.bool bmf,.int .u16 (fr:Int),.int .u8 y8,.int .u8 y9,.int .u8 y12,.int .u8 y13,.int .u8 y14,.int .u8 y15,.int .u8 y16,.int .u8 y17,.int .u8 y18,.int .u8 y19,.slice ob (lo*4-20) cb]).cell? ⟨gb,1,none⟩=some (.int .u16 w2a):=by rw[cell_of_row _ _ _ _ _ _ hHC];rfl
  have hrz:rowFree (wn.setRow gb #[.int .u8 y1,.int .u16 w2a,.int .u16 w4a,.bool bdf,.bool bmf,.int .u16 (fr:Int),.int .u8 y8,.int .u8 y9,.int .u8 y12,.int .u8 y13,.int .u8 y14,.int .u8 y15,.int .u8 y16,.int .u8 y17,.int .u8 y18,.int .u8 y19,.slice ob (lo*4-20) cb]) w.heap.size 17=true:=by rw[rowFree_row _ _ _ _ _ hHZ];rfl
  have hpt:partOf (wn.setRow gb #[.int .u8 y1,.int .u16 w2a,.int .u16 w4a,.bool bdf,.bool bmf,.int .u16 (fr:Int),.int .u8 y8,.int .u8 y9,.int .u8 y12,.int .u8 y13,.int .u8 y14,.int .u8 y15,.int .u8 y16,.int .u8 y17,.int .u8 y18,.int .u8 y19,.slice ob (lo*4-20) cb]) gb 0 17=#[.int .u8 y1,.int .u16 w2a,.int .u16 w4a,.bool bdf,.bool bmf,.int .u16 (fr:Int),.int .u8 y8,.int .u8 y9,.int .u8 y12,.int .u8 y13,.int .u8 y14,.int .u8 y15,.int .u8 y16,.int .u8 y17,.int .u8 y18,.int .u8 y19,.slice ob (lo*4-20) cb]:=by rw[partOf_row _ _ _ _ _ _ _ hHC];simp
  have HHC:=Lib.hid hHC
  have HHZ:=Lib.hid hHZ
  have hw2b:0≤w2a∧w2a<65536:=by have:=w2_bd HR2.out.byte 2;rw[HW2a.out] at this;exact this
  clear hHC hHZ ho hl
  simp only[List.drop_succ_cons,List.drop_zero]
  simp only[Act.put,ptrTo,List.setIfInBounds_toArray,List.set_cons_succ,List.set_cons_zero]
  by_cases hA:32768≤w2 l 6
  ·have hv15:(0:Int)<v15:=by have:=HP15.out;rw[decide_eq_true hA] at this;exact of_decide_eq_true this
   have HE:Hid (ipErr l=51):=Lib.hid (by rw[HER3.out,if_pos (.inl hA)])
   go_wp2_with fail
   exact ipNo_post w.heap.size HE.out (by decide) rfl rfl rfl (setRow_heap _ _ _ _ _ _ HHZ.out) (below_setRow HBM.out (Nat.le_refl _) _)
  ·have hv15:¬(0:Int)<v15:=by have:=HP15.out;rw[decide_eq_false hA] at this;exact of_decide_eq_false this
   have hd15:decide ((0:Int)<v15)=false:=decide_eq_false hv15
   by_cases hBB:w2a<(lo:Int)*4
   ·have HE:Hid (ipErr l=51):=Lib.hid (by rw[HER3.out,if_pos (.inr (by rw[HW2a.out];omega))])
    go_wp2_with fail
    exact ipNo_post w.heap.size HE.out (by decide) rfl rfl rfl (setRow_heap _ _ _ _ _ _ HHZ.out) (below_setRow HBM.out (Nat.le_refl _) _)
   ·have HE3:Hid (ipErr l=if wholeB (l.take (lo*4))=false then 52 else 0):=Lib.hid (by rw[HER3.out,if_neg (by rw[HW2a.out];omega)])
    have HRU:Hid (RowsUnder ((wn.setRow gb #[.int .u8 y1,.int .u16 w2a,.int .u16 w4a,.bool bdf,.bool bmf,.int .u16 (fr:Int),.int .u8 y8,.int .u8 y9,.int .u8 y12,.int .u8 y13,.int .u8 y14,.int .u8 y15,.int .u8 y16,.int .u8 y17,.int .u8 y18,.int .u8 y19,.slice ob (lo*4-20) cb]).alloc (.cells #[.slice (some ⟨g,off,none⟩) (lo*4) cap] 22)) (((wn.setRow gb #[.int .u8 y1,.int .u16 w2a,.int .u16 w4a,.bool bdf,.bool bmf,.int .u16 (fr:Int),.int .u8 y8,.int .u8 y9,.int .u8 y12,.int .u8 y13,.int .u8 y14,.int .u8 y15,.int .u8 y16,.int .u8 y17,.int .u8 y18,.int .u8 y19,.slice ob (lo*4-20) cb]).alloc (.cells #[.slice (some ⟨g,off,none⟩) (lo*4) cap] 22)).heap.size) wn.heap.size 1 [l.take (lo*4)]):=Lib.hid (by
     have hrl:=((HR2.out.below HBM2.out).alloc (.cells #[.slice (some ⟨g,off,none⟩) (lo*4) cap] 22)).take (lo*4) (by omega)
     refine⟨rfl,by simp,fun j hj=>?_⟩
     obtain rfl:j=0:=by simpa using hj
     exact⟨some ⟨g,off,none⟩,lo*4,cap,by go_cell,hrl,by omega,fun a ha=>by cases ha;have:=HG2.out;have:=HBM2.out.size;simp only[World.size_alloc];omega⟩)
    have HWH:=Lib.hid (whole_any wn.heap.size 1 1 _ _ HRU.out (by omega))
    rw[show[l.take (lo*4)].flatten=l.take (lo*4) by simp] at HWH
    have HBA:Hid (Below w.heap.size w ((wn.setRow gb #[.int .u8 y1,.int .u16 w2a,.int .u16 w4a,.bool bdf,.bool bmf,.int .u16 (fr:Int),.int .u8 y8,.int .u8 y9,.int .u8 y12,.int .u8 y13,.int .u8 y14,.int .u8 y15,.int .u8 y16,.int .u8 y17,.int .u8 y18,.int .u8 y19,.slice ob (lo*4-20) cb]).alloc (.cells #[.slice (some ⟨g,off,none⟩) (lo*4) cap] 22))):=Lib.hid (Below.all HBM.out _)
    have HHCA:Hid (((wn.setRow gb #[.int .u8 y1,.int .u16 w2a,.int .u16 w4a,.bool bdf,.bool bmf,.int .u16 (fr:Int),.int .u8 y8,.int .u8 y9,.int .u8 y12,.int .u8 y13,.int .u8 y14,.int .u8 y15,.int .u8 y16,.int .u8 y17,.int .u8 y18,.int .u8 y19,.slice ob (lo*4-20) cb]).alloc (.cells #[.slice (some ⟨g,off,none⟩) (lo*4) cap] 22)).heap[gb]? =some (.cells #[.int .u8 y1,.int .u16 w2a,.int .u16 w4a,.bool bdf,.bool bmf,.int .u16 (fr:Int),.int .u8 y8,.int .u8 y9,.int .u8 y12,.int .u8 y13,.int .u8 y14,.int .u8 y15,.int .u8 y16,.int .u8 y17,.int .u8 y18,.int .u8 y19,.slice ob (lo*4-20) cb] 113 (0,0))):=Lib.hid ((heap_alloc_old _ _ (Array.getElem?_eq_some_iff.1 HHC.out).1).trans HHC.out)
    have HHZA:Hid (((wn.setRow gb #[.int .u8 y1,.int .u16 w2a,.int .u16 w4a,.bool bdf,.bool bmf,.int .u16 (fr:Int),.int .u8 y8,.int .u8 y9,.int .u8 y12,.int .u8 y13,.int .u8 y14,.int .u8 y15,.int .u8 y16,.int .u8 y17,.int .u8 y18,.int .u8 y19,.slice ob (lo*4-20) cb]).alloc (.cells #[.slice (some ⟨g,off,none⟩) (lo*4) cap] 22)).heap[w.heap.size]? =some (.cells ipZ 113 (0,0))):=Lib.hid ((heap_alloc_old _ _ (Array.getElem?_eq_some_iff.1 HHZ.out).1).trans HHZ.out)
    have HOA:=Lib.hid (HOM.out.alloc (.cells #[.slice (some ⟨g,off,none⟩) (lo*4) cap] 22))
    go_wp2_with fail
    generalize ((wn.setRow gb #[.int .u8 y1,.int .u16 w2a,.int .u16 w4a,.bool bdf,.bool bmf,.int .u16 (fr:Int),.int .u8 y8,.int .u8 y9,.int .u8 y12,.int .u8 y13,.int .u8 y14,.int .u8 y15,.int .u8 y16,.int .u8 y17,.int .u8 y18,.int .u8 y19,.slice ob (lo*4-20) cb]).alloc (.cells #[.slice (some ⟨g,off,none⟩) (lo*4) cap] 22))=wa at*
    refine Calls.mono HWH.out ?_
    rintro e wb ⟨rfl,hbb⟩
    have HBB:=Lib.hid (Below.via HBA.out hbb)
    have HHCB:Hid (wb.heap[gb]? =some (.cells #[.int .u8 y1,.int .u16 w2a,.int .u16 w4a,.bool bdf,.bool bmf,.int .u16 (fr:Int),.int .u8 y8,.int .u8 y9,.int .u8 y12,.int .u8 y13,.int .u8 y14,.int .u8 y15,.int .u8 y16,.int .u8 y17,.int .u8 y18,.int .u8 y19,.slice ob (lo*4-20) cb] 113 (0,0))):=Lib.hid ((hbb.block _ (Array.getElem?_eq_some_iff.1 HHCA.out).1).trans HHCA.out)
    have HHZB:Hid (wb.heap[w.heap.size]? =some (.cells ipZ 113 (0,0))):=Lib.hid ((hbb.block _ (Array.getElem?_eq_some_iff.1 HHZA.out).1).trans HHZA.out)
    have HOB:=Lib.hid (HOA.out.below hbb)
    have hrzb:rowFree wb w.heap.size 17=true:=by rw[rowFree_row _ _ _ _ _ HHZB.out];rfl
    have hptb:partOf wb gb 0 17=#[.int .u8 y1,.int .u16 w2a,.int .u16 w4a,.bool bdf,.bool bmf,.int .u16 (fr:Int),.int .u8 y8,.int .u8 y9,.int .u8 y12,.int .u8 y13,.int .u8 y14,.int .u8 y15,.int .u8 y16,.int .u8 y17,.int .u8 y18,.int .u8 y19,.slice ob (lo*4-20) cb]:=by rw[partOf_row _ _ _ _ _ _ _ HHCB.out];simp
    clear hbb HRU HWH HBA HHCA HHZA HOA hrz hpt hcl1 hrf HHC HHZ HBM HBM2 HOM
    cases hwh:wholeB (l.take (lo*4))
    ·have HE:Hid (ipErr l=52):=Lib.hid (by rw[HE3.out,if_pos hwh])
     go_wp2_with fail
     exact ipNo_post w.heap.size HE.out (by decide) rfl rfl rfl (setRow_heap _ _ _ _ _ _ HHZB.out) (below_setRow HBB.out (Nat.le_refl _) _)
    ·have HE:Hid (ipErr l=0):=Lib.hid (by rw[HE3.out,if_neg (by rw[hwh];decide)])
     go_wp2_with fail
     have hfin:(wb.setRow w.heap.size #[.int .u8 y1,.int .u16 w2a,.int .u16 w4a,.bool bdf,.bool bmf,.int .u16 (fr:Int),.int .u8 y8,.int .u8 y9,.int .u8 y12,.int .u8 y13,.int .u8 y14,.int .u8 y15,.int .u8 y16,.int .u8 y17,.int .u8 y18,.int .u8 y19,.slice ob (lo*4-20) cb]).heap[w.heap.size]? =some (.cells #[.int .u8 y1,.int .u16 w2a,.int .u16 w4a,.bool bdf,.bool bmf,.int .u16 (fr:Int),.int .u8 y8,.int .u8 y9,.int .u8 y12,.int .u8 y13,.int .u8 y14,.int .u8 y15,.int .u8 y16,.int .u8 y17,.int .u8 y18,.int .u8 y19,.slice ob (lo*4-20) cb] 113 (0,0)):=setRow_heap _ _ _ _ _ _ HHZB.out
     have hpf:partOf (wb.setRow w.heap.size #[.int .u8 y1,.int .u16 w2a,.int .u16 w4a,.bool bdf,.bool bmf,.int .u16 (fr:Int),.int .u8 y8,.int .u8 y9,.int .u8 y12,.int .u8 y13,.int .u8 y14,.int .u8 y15,.int .u8 y16,.int .u8 y17,.int .u8 y18,.int .u8 y19,.slice ob (lo*4-20) cb]) w.heap.size 0 17=#[.int .u8 y1,.int .u16 w2a,.int .u16 w4a,.bool bdf,.bool bmf,.int .u16 (fr:Int),.int .u8 y8,.int .u8 y9,.int .u8 y12,.int .u8 y13,.int .u8 y14,.int .u8 y15,.int .u8 y16,.int .u8 y17,.int .u8 y18,.int .u8 y19,.slice ob (lo*4-20) cb]:=by rw[partOf_row _ _ _ _ _ _ _ hfin];rfl
     refine ipOk_post w.heap.size rfl rfl rfl hpf rfl (.inr ⟨HE.out,ob,cb,?_,?_,below_setRow HBB.out (Nat.le_refl _) _⟩)
     ·unfold ipA
      rw[HY1.out,HY8.out,HY9.out,HY12.out,HY13.out,HY14.out,HY15.out,HY16.out,HY17.out,HY18.out,HY19.out,HW2a.out,HW4a.out,HBDF.out,HBMF.out,←HF13.out,HHL.out,show((lo*4:Nat):Int)=(lo:Int)*4 by omega]
     ·rw[HHL.out,HLO.out]
      exact(HOB.out.keep (by simp) fun a ha=>setRow_other _ w.heap.size _ _ (by have h1:=(HOB.out.lt ha).1;omega)).mono (by omega)
theorem ipparse_any (oa:Option Addr)(n cap:Nat)(l:List Int)(w:World)(hr:Reads w oa n cap l)(hn2:n≤100000):Calls Tryz.prog 52 #[.slice oa n cap] w (IpPost w l):=by
 by_cases h:n<20
 ·refine(ipparse_short oa n cap w h).mono ?_
  intro e w' hp
  exact .err hp (by unfold ipErr;rw[hr.len,if_pos h]) (by decide)
 ·rcases hr.addr with h0|⟨g,off,rfl,-⟩
  ·omega
  ·exact ipparse_long g off n cap l w hr (by omega) hn2
theorem run_cutBothK {P:Program}(t:TypeId)(k1 k2:IntKind)(oa:Option Addr)(n cap size:Nat)(ht:P.underlying t=some (.slice (P.elem t)))(hsize:(P.info? (P.elem t)).map (·.size)=some size)(k m:Nat)(i j:Int)(hi:i=(k:Int))(hj:j=(m:Int))(hk:k≤m)(hm:m≤cap)(w:World):
 (Instr.slice t (.slice oa n cap) (some (.int k1 i)) (some (.int k2 j)) none).run P w=.ok (.slice (cutAddr oa k cap size) (m-k) (cap-k)) w:=by
 subst hi hj
 obtain⟨inf,h1,h2⟩:=Option.map_eq_some_iff.1 hsize
 rw[run_slice_lh w t oa n cap ht k1 k2 (k:Int) (m:Int) (Int.natCast_nonneg _) (Int.ofNat_le.2 hk) (Int.ofNat_le.2 hm)]
 simp[sizeOf,typeInfo,h1,h2,sliced,cutAddr,Result.andThen]
def ipBodyL (l:List Int):List Int:=if ipBodyErr l=0 then ipBody l else []
def BytesErr (w:World)(l:List Int)(err:Int):Ending→World→Prop:=fun e w'=>∃oa cap,e=.returned (.tuple #[.slice oa l.length cap,.int .i64 err])∧Owns w' w.heap.size 1 oa l.length cap (l.map (.int .u8))∧Below w.heap.size w w'
theorem ipErr_ok {l:List Int}(h:ipErr l=0):20≤ipHl l∧ipHl l≤l.length∧(ipHl l:Int)≤w2 l 2:=by
 unfold ipErr at h
 by_cases h1:l.length<20
 ·rw[if_pos h1] at h;cases h
 rw[if_neg h1] at h
 by_cases h2:l.getD 0 0/16≠4
 ·rw[if_pos h2] at h;cases h
 rw[if_neg h2] at h
 by_cases h3:ipHl l<20
 ·rw[if_pos h3] at h;cases h
 rw[if_neg h3] at h
 by_cases h4:l.length<ipHl l
 ·rw[if_pos h4] at h;cases h
 rw[if_neg h4] at h
 by_cases h5:32768≤w2 l 6∨w2 l 2<ipHl l
 ·rw[if_pos h5] at h;cases h
 omega
theorem ipbody_any (oa:Option Addr)(n cap:Nat)(l:List Int)(w:World)(hr:Reads w oa n cap l)(hn2:n≤100000):Calls Tryz.prog 76 #[.slice oa n cap] w (BytesErr w (ipBodyL l) (ipBodyErr l)):=by
 have HR:=Lib.hid hr
 have hlen:=hr.len
 have HP:=Lib.hid (ipparse_any oa n cap l w hr hn2)
 clear hr
 go_enter Tryz.func76,Tryz.ntmps76
 go_wp2_with fail
 refine Calls.mono HP.out ?_
 rintro e w1 (⟨h0,rfl,hb⟩|⟨h0,ob,cb,rfl,ho,hb⟩)
 ·have HE:Hid (ipBodyErr l=ipErr l):=Lib.hid (by unfold ipBodyErr;rw[if_pos h0])
  have HL:Hid (ipBodyL l=[]):=Lib.hid (by unfold ipBodyL;rw[if_neg (by rw[HE.out];exact h0)])
  have HB:=Lib.hid hb
  have hne:(ipErr l==0)=false:=by simpa using h0
  have HF:Hid (BytesErr w (ipBodyL l) (ipBodyErr l)=BytesErr w [] (ipErr l)):=Lib.hid (by rw[HE.out,HL.out])
  clear hb HP HE HL
  unfold ipNo ipZ
  go_wp2_with fail
  go_ret2
  show BytesErr w (ipBodyL l) (ipBodyErr l) _ _
  rw[HF.out]
  exact⟨none,0,rfl,Owns.nil _ _ _,Below.all HB.out _⟩
 ·have hk:=ipErr_ok h0
  have hbd:=w2_bd HR.out.byte 2
  have HB:=Lib.hid hb
  have HK:=Lib.hid hk
  have HE:Hid (ipBodyErr l=if (l.length:Int)<w2 l 2 then 10 else 0):=Lib.hid (by unfold ipBodyErr;rw[if_neg (by rw[h0];decide)])
  have HR1:=Lib.hid (HR.out.below hb)
  unfold ipA
  clear hb ho HP
  obtain⟨tot,htot⟩:∃t:Nat,w2 l 2=t:=⟨(w2 l 2).toNat,by omega⟩
  obtain⟨hl,hhl⟩:∃k:Nat,ipHl l=k:=⟨_,rfl⟩
  have HBD:Hid (ipBody l=(l.drop hl).take (tot-hl)):=Lib.hid (by unfold ipBody;rw[hhl,htot,Int.toNat_natCast])
  rw[htot] at HE
  rw[htot,hhl] at hk
  rw[htot,hhl]
  rw[hlen] at HE hk
  by_cases hs:(n:Int)<tot
  ·have HE2:Hid (ipBodyErr l=10):=Lib.hid (by rw[HE.out,if_pos hs])
   have HL:Hid (ipBodyL l=[]):=Lib.hid (by unfold ipBodyL;rw[if_neg (by rw[HE2.out];decide)])
   go_wp2_with fail
   go_ret2
   show BytesErr w (ipBodyL l) (ipBodyErr l) _ _
   rw[HE2.out,HL.out]
   exact⟨none,0,rfl,Owns.nil _ _ _,Below.all HB.out _⟩
  ·have HE2:Hid (ipBodyErr l=0):=Lib.hid (by rw[HE.out,if_neg hs])
   have HL:Hid (ipBodyL l=(l.drop hl).take (tot-hl)):=Lib.hid (by unfold ipBodyL;rw[if_pos HE2.out,HBD.out])
   have hle:=HR.out.le
   have hcut:∀w,(Instr.slice 22 (.slice oa n cap) (some (.int .i64 (hl:Int))) (some (.int .u16 (tot:Int))) none).run Tryz.prog w=.ok (.slice (cutAddr oa hl cap 1) (tot-hl) (cap-hl)) w:=fun w=>run_cutBothK _ .i64 .u16 oa n cap 1 rfl rfl hl tot _ _ rfl rfl (by omega) (by omega) w
   go_wp2_with fail
   refine Calls.mono (Bits.clone_any _ _ _ _ _ (((HR1.out.alloc _).cut hl (by omega)).take (tot-hl) (by omega)) (by omega)) ?_
   rintro e w3 ⟨oc,cc,rfl,ho,hb3⟩
   go_wp2_with fail
   go_ret2
   show BytesErr w (ipBodyL l) (ipBodyErr l) _ _
   rw[HE2.out,HL.out]
   refine⟨oc,cc,?_,?_,?_⟩
   ·show Ending.returned (.tuple #[.slice oc (min (tot-hl) (n-hl)) cc,.int .i64 0])=_
    rw[List.length_take,List.length_drop,hlen]
   ·exact ho.mono (Below.all HB.out _).size
   ·exact Below.via (Below.all HB.out _) hb3
def ipV (h:IpH)(oa:Option Addr)(cap:Nat):Array Value:=#[.int .u8 h.tos,.int .u16 h.total,.int .u16 h.id,.bool h.df,.bool h.mf,.int .u16 h.frag,.int .u8 h.ttl,.int .u8 h.proto,
 .int .u8 (h.src.getD 0 0),.int .u8 (h.src.getD 1 0),.int .u8 (h.src.getD 2 0),.int .u8 (h.src.getD 3 0),.int .u8 (h.dst.getD 0 0),.int .u8 (h.dst.getD 1 0),.int .u8 (h.dst.getD 2 0),.int .u8 (h.dst.getD 3 0),.slice oa h.opt.length cap]
theorem iplength_any (h:IpH)(oa:Option Addr)(cap:Nat)(w:World)(hn:h.opt.length≤100000):Calls Tryz.prog 109 #[.agg (ipV h oa cap)] w (RetAt w (.int .i64 (20+(h.opt.length:Int)))):=by
 unfold ipV
 generalize h.opt.length=n at*
 go_enter Tryz.func109,Tryz.ntmps109
 go_wp2_with fail
 go_ret
 refine .mk (val_int ?_) ?_
 ·rfl
 ·repeat' (first|assumption|exact Below.refl _ _|apply Below.all)
theorem ipflag_any (b:Bool)(v:Int)(w:World):Calls Tryz.prog 110 #[.bool b,.int .u64 v] w (RetAt w (.int .u64 (if b then v else 0))):=by
 cases b
 ·go_enter Tryz.func110,Tryz.ntmps110
  go_wp2_with fail
  go_ret
  exact .mk (val_int rfl) (Below.refl _ _)
 ·go_enter Tryz.func110,Tryz.ntmps110
  go_wp2_with fail
  go_ret
  exact .mk (val_int rfl) (Below.refl _ _)
theorem ipright_any (h:IpH)(oa:Option Addr)(cap:Nat)(w:World)(hn:h.opt.length≤100000)(ht:0≤h.total∧h.total<65536):Calls Tryz.prog 107 #[.agg (ipV h oa cap)] w (RetAt w (.bool (ipRight h))):=by
 have hL:∀w,Calls Tryz.prog 109 #[.agg (ipV h oa cap)] w (RetAt w (.int .i64 (20+(h.opt.length:Int)))):=fun w=>iplength_any h oa cap w hn
 have HV:Hid (ipRight h=(decide (h.frag≤8191)&&(decide (h.opt.length%4=0)&&(decide (h.opt.length≤40)&&decide (20+(h.opt.length:Int)≤h.total))))):=Lib.hid rfl
 generalize ipRight h=R at*
 unfold ipV at hL⊢
 generalize h.opt.length=n at*
 generalize h.frag=fr at*
 generalize h.total=tot at*
 by_cases h1:fr≤8191
 ·by_cases h2:n%4=0
  ·have hm:Int.tmod (n:Int) 4=0:=by rw[Int.tmod_eq_emod_of_nonneg (by omega)];omega
   by_cases h3:n≤40
   ·have h3':(n:Int)≤40:=by omega
    have HE:Hid (R=decide (20+(n:Int)≤tot)):=Lib.hid (by rw[HV.out,decide_eq_true h1,decide_eq_true h2,decide_eq_true h3];rfl)
    clear HV
    go_enter Tryz.func107,Tryz.ntmps107
    go_wp2_with fail
    refine wp_region_later (by kernel_rfl) (by kernel_rfl) ?_
    repeat go_big_quiet_step ((go_at_call 109;exact later_call (hL _)))
    refine wpQuiet_nil ?_
    intro x
    go_wp2_with fail
    go_ret
    refine .mk (val_bool HE.out.symm) (Below.lat (Below.all (Below.refl _ _) _))
   ·have h3':¬(n:Int)≤40:=by omega
    have d3:=decide_eq_false h3'
    have d1:=decide_eq_true h1
    have HE:Hid (R=false):=Lib.hid (by rw[HV.out,decide_eq_true h1,decide_eq_true h2,decide_eq_false h3];rfl)
    clear HV
    go_enter Tryz.func107,Tryz.ntmps107
    go_wp2_with fail
    refine wp_region_later (by kernel_rfl) (by kernel_rfl) ?_
    repeat go_big_quiet_step (fail)
    refine wpQuiet_nil ?_
    intro x
    go_wp2_with fail
    go_ret
    refine .mk (val_bool HE.out.symm) (Below.lat (Below.all (Below.refl _ _) _))
  ·have hm:¬Int.tmod (n:Int) 4=0:=by rw[Int.tmod_eq_emod_of_nonneg (by omega)];omega
   have HE:Hid (R=false):=Lib.hid (by rw[HV.out,decide_eq_true h1,decide_eq_false h2];rfl)
   have d2:(Int.tmod (n:Int) 4==0)=false:=by simpa using hm
   have d3:((n:Int)%4==0)=false:=by simp;omega
   have d1:=decide_eq_true h1
   clear HV
   go_enter Tryz.func107,Tryz.ntmps107
   go_wp2_with fail
   refine wp_region_later (by kernel_rfl) (by kernel_rfl) ?_
   repeat go_big_quiet_step (fail)
   refine wpQuiet_nil ?_
   intro x
   go_wp2_with fail
   go_ret
   refine .mk (val_bool HE.out.symm) (Below.lat (Below.all (Below.refl _ _) _))
 ·have HE:Hid (R=false):=Lib.hid (by rw[HV.out,decide_eq_false h1];rfl)
  have d1:=decide_eq_false h1
  clear HV
  go_enter Tryz.func107,Tryz.ntmps107
  go_wp2_with fail
  refine wp_region_later (by kernel_rfl) (by kernel_rfl) ?_
  repeat go_big_quiet_step (fail)
  refine wpQuiet_nil ?_
  intro x
  go_wp2_with fail
  go_ret
  refine .mk (val_bool HE.out.symm) (Below.lat (Below.all (Below.refl _ _) _))
open Go.RowKit Bits
theorem make2 (w:World):(Instr.makeSlice 22 (.int .i64 2) (.int .i64 2)).run Tryz.prog w=.ok (.slice (some ⟨w.heap.size,0,none⟩) 2 2) (w.alloc (.cells #[.int .u8 0,.int .u8 0] 5)):=
 (run_make_row' 22 5 (.int .u8 0) 1 Tryz.underlying22 infoU8 rfl .i64 .i64 2 (by decide) (by decide) w).trans (by rw[show madeCells #[Value.int .u8 0] 2=#[.int .u8 0,.int .u8 0] from by kernel_rfl])
theorem of2_any (v:Int)(h0:0≤v)(h1:v<65536)(w:World):Calls Tryz.prog 125 #[.int .u64 v,.int .i64 2] w (NewBytes w (be2 v)):=by
 have hm:=make2
 go_enter Tryz.func125,Tryz.ntmps125
 go_wp2_with fail
 refine wp_loop_rounds 3 ?_
 rw[rounds_succ]
 go_wp2_with fail
 rw[rounds_succ]
 go_wp2_with fail
 rw[rounds_succ]
 go_wp2_with fail
 go_ret
 refine⟨_,_,rfl,?_,?_⟩
 ·refine Owns.made _ 2 2 5 _ (Nat.le_refl _) (Nat.le_refl 2) (Nat.le_refl 2) (by decide) ?_
  simp[be2]
  all_goals omega
 ·exact(Below.refl _ _).alloc (Nat.le_refl _) _
theorem put2_any (p:Nat)(l:List Int)(v:Int)(h0:0≤v)(h1:v<65536)(w:World)(hw:Wr w p l)(hm:l.length≤900000):
 Calls Tryz.prog 65 #[.pointer (some ⟨p,0,none⟩),.int .u64 v,.int .i64 2] w (WrPost w p (l++be2 v)):=by
 have HW:=Lib.hid hw
 clear hw
 go_enter Tryz.func65,Tryz.ntmps65
 go_wp2_with (go_at_call 124;refine Calls.later (fits_any v 2 h0 (by omega) (by decide) (by decide) _) ?_;intro x)
 refine Calls.mono (of2_any v h0 h1 _) ?_
 rintro e w2 ⟨oa,cap,rfl,ho,hb⟩
 go_wp2_with fail
 refine Calls.mono (raw_any p l oa _ cap (be2 v) w2 ((HW.out.later x).below hb) (ho.reads (be2_bytes v)) (by simp[be2];omega)) ?_
 rintro e w3 ⟨rfl,hW3,hb3⟩
 go_wp2_with fail
 go_ret
 exact⟨rfl,hW3,((x.below.mono (Nat.le_of_lt HW.out.lt)).trans (hb.mono (Nat.le_of_lt (Nat.lt_of_lt_of_le HW.out.lt x.below.size)))).trans hb3⟩
def putB (size:Nat)(v:Int):List Int:=if size=1 then [v] else be2 v
def topB (size:Nat):Int:=if size=1 then 256 else 65536
theorem putB_len (size:Nat)(v:Int):(putB size v).length≤2:=by
 unfold putB;split<;>simp[be2]
open Go.RowKit Bits
structure WrK (w:World)(p:Nat)(K:Nat→Prop)(l:List Int):Prop where
 row:∃oa cap,w.cell? ⟨p,0,none⟩=some (.slice oa l.length cap)∧Owns w (p+1) 1 oa l.length cap (l.map (.int .u8))∧∀a,oa=some a→¬K a.block
 free:w.frozen? ⟨p,0,none⟩=false
 lt:p<w.heap.size
 byte:∀v∈l,0≤v∧v<256
 ne:¬K p
 old:∀b,K b→b<w.heap.size
theorem WrK.wr {w:World}{p:Nat}{K:Nat→Prop}{l:List Int}(h:WrK w p K l):Wr w p l:=by
 obtain⟨oa,cap,h1,h2,-⟩:=h.row
 exact⟨⟨oa,cap,h1,h2⟩,h.free,h.lt,h.byte⟩
theorem WrK.below {w w':World}{p:Nat}{K:Nat→Prop}{l:List Int}(h:WrK w p K l)(hb:Below w.heap.size w w'):WrK w' p K l:=by
 obtain⟨oa,cap,hc,ho,hk⟩:=h.row
 exact⟨⟨oa,cap,(hb.cell (p:=⟨p,0,none⟩) h.lt).trans hc,ho.below hb,hk⟩,(hb.frozen (p:=⟨p,0,none⟩) h.lt).trans h.free,Nat.lt_of_lt_of_le h.lt hb.size,h.byte,h.ne,fun b hb'=>Nat.lt_of_lt_of_le (h.old b hb') hb.size⟩
theorem WrK.later {w:World}{p:Nat}{K:Nat→Prop}{l:List Int}(h:WrK w p K l)(x:Later w):WrK x.world p K l:=h.below x.below
def Stays (K:Nat→Prop)(w w':World):Prop:=∀b,K b→w'.heap[b]? =w.heap[b]?
theorem Stays.trans {K:Nat→Prop}{a b c:World}(h:Stays K a b)(h':Stays K b c):Stays K a c:=fun k hk=>(h' k hk).trans (h k hk)
theorem Stays.refl (K:Nat→Prop)(w:World):Stays K w w:=fun _ _=>rfl
theorem Stays.of {K:Nat→Prop}{w w':World}(hb:Below w.heap.size w w')(ho:∀b,K b→b<w.heap.size):Stays K w w':=fun b hk=>hb.block b (ho b hk)
def WrKPost (w:World)(p:Nat)(K:Nat→Prop)(l:List Int):Ending→World→Prop:=fun e w'=>e=.returned (.int .i64 0)∧WrK w' p K l∧Below p w w'∧Stays K w w'
theorem raw_keep (p:Nat)(K:Nat→Prop)(l:List Int)(A:Option Addr)(m c:Nat)(l2:List Int)(w:World)(hw:WrK w p K l)(hr:Reads w A m c l2)(hm:l.length+l2.length≤1000000):
 Calls Tryz.prog 63 #[.pointer (some ⟨p,0,none⟩),.slice A m c] w (WrKPost w p K (l++l2)):=by
 obtain rfl:=hr.len
 obtain⟨oa,cap,hc,ho,hko⟩:=hw.row
 have hf:=hw.free
 have hlt:=hw.lt
 have HKO:=Lib.hid hko
 clear hko
 go_enter Tryz.func63,Tryz.ntmps63
 go_wp2_with (at_builtin;refine Stopped.of ?_)
 refine Stopped.mk ?_
 refine wpList_append_reads _ rfl _ _ 22 rfl 5 (p+1) Tryz.underlying22 infoU8 oa l.length cap _ rfl ho A l2.length c l2 rfl hr (by omega) hlt ?_
 intro oa' cap' w' ho' hg hd
 rw[←List.map_append] at ho'
 have hb:Below (p+1) w w':=Below.appended (Below.refl _ _) ho (Nat.le_refl _) hg hlt
 have hc':=(hb.cell (p:=⟨p,0,none⟩) (Nat.lt_succ_self p)).trans hc
 have hf':=(hb.frozen (p:=⟨p,0,none⟩) (Nat.lt_succ_self p)).trans hf
 have hlt':p<w'.heap.size:=Nat.lt_of_lt_of_le hlt hb.size
 have HK':Hid (∀a,oa'=some a→¬K a.block):=Lib.hid (fun a ha hk=>by
  rcases hd a ha with h|h
  ·exact HKO.out a h hk
  ·exact Nat.lt_irrefl _ (Nat.lt_of_lt_of_le (hw.old _ hk) h))
 have HS:Hid (Stays K w w'):=Lib.hid (fun b hk=>hg.block _ (hw.old b hk) (fun h=>by
  obtain⟨a,e1,e2⟩:=Option.map_eq_some_iff.1 h.symm
  exact HKO.out a e1 (e2▸hk)))
 clear hg hd hc hf hlt
 go_wp2_with fail
 go_ret
 refine⟨rfl,⟨⟨oa',cap',?_,?_,HK'.out⟩,?_,?_,?_,hw.ne,?_⟩,?_,?_⟩
 ·rw[World.cell?_setCell_same _ _ _ hc',List.length_append]
 ·rw[List.length_append]
  exact ho'.other (fun a ha=>by have:=(ho'.lt ha).1;simp only;omega) _
 ·rw[World.frozen?_setCell];exact hf'
 ·simpa using hlt'
 ·intro v hv
  rcases List.mem_append.1 hv with h|h
  ·exact hw.byte v h
  ·exact hr.byte v h
 ·intro b hk
  have:=hw.old b hk
  have:=hb.size
  simp;omega
 ·exact(hb.mono (Nat.le_succ p)).setCell (Nat.le_refl _) _
 ·intro b hk
  have hne:b≠p:=fun h=>hw.ne (h▸hk)
  refine Eq.trans ?_ (HS.out b hk)
  exact Below.heap_setCell _ _ _ _ hne
theorem put_keep (size:Nat)(hs:size=1∨size=2)(p:Nat)(K:Nat→Prop)(l:List Int)(v:Int)(h0:0≤v)(h1:v<topB size)(w:World)(hw:WrK w p K l)(hm:l.length≤900000):
 Calls Tryz.prog 65 #[.pointer (some ⟨p,0,none⟩),.int .u64 v,.int .i64 size] w (WrKPost w p K (l++putB size v)):=by
 have HW:=Lib.hid hw
 clear hw
 have hfit:∀w,Calls Tryz.prog 124 #[.int .u64 v,.int .i64 size] w (RetAt w (.bool true)):=fun w=>by
  rcases hs with rfl|rfl
  ·exact fits_any v 1 h0 (by simpa[topB] using h1) (by decide) (by decide) w
  ·exact fits_any v 2 h0 (by simpa[topB] using h1) (by decide) (by decide) w
 have hof:∀w,Calls Tryz.prog 125 #[.int .u64 v,.int .i64 size] w (NewBytes w (putB size v)):=fun w=>by
  rcases hs with rfl|rfl
  ·exact of1_any v h0 (by simpa[topB] using h1) w
  ·exact of2_any v h0 (by simpa[topB] using h1) w
 have hby:∀x∈putB size v,0≤x∧x<256:=by
  rcases hs with rfl|rfl
  ·intro x hx
   simp only[putB,if_true,List.mem_singleton] at hx
   subst hx
   exact⟨h0,by simpa[topB] using h1⟩
  ·exact be2_bytes v
 have hln:=putB_len size v
 generalize putB size v=B at*
 generalize topB size=T at*
 go_enter Tryz.func65,Tryz.ntmps65
 go_wp2_with (go_at_call 124;refine Calls.later (hfit _) ?_;intro x)
 refine Calls.mono (hof _) ?_
 rintro e w2 ⟨oa,cap,rfl,ho,hb⟩
 go_wp2_with fail
 refine Calls.mono (raw_keep p K l oa _ cap B w2 ((HW.out.later x).below hb) (ho.reads hby) (by omega)) ?_
 rintro e w3 ⟨rfl,hW3,hb3,hs3⟩
 go_wp2_with fail
 go_ret
 exact⟨rfl,hW3,((x.below.mono (Nat.le_of_lt HW.out.lt)).trans (hb.mono (Nat.le_of_lt (Nat.lt_of_lt_of_le HW.out.lt x.below.size)))).trans hb3,((Stays.of x.below HW.out.old).trans (Stays.of hb (HW.out.later x).old)).trans hs3⟩
open Go.RowKit Bits
def putsB (size:Nat)(vs:List Int):List Int:=(vs.map (putB size)).flatten
theorem putsB_snoc (size:Nat)(vs:List Int)(v:Int):putsB size (vs++[v])=putsB size vs++putB size v:=by simp[putsB]
theorem putsB_len (size:Nat)(vs:List Int):(putsB size vs).length≤2*vs.length:=by
 induction vs with
 |nil=>simp[putsB]
 |cons v r ih=>
  have:=putB_len size v
  unfold putsB at ih⊢
  simp only[List.map_cons,List.flatten_cons,List.length_append,List.length_cons]
  omega
theorem wput_any (size:Nat)(hs:size=1∨size=2)(p g:Nat)(K:Nat→Prop)(vs:List Int)(l:List Int)(w:World)(hw:WrK w p K l)(hg:K g)
 (hc:∀j,j<vs.length→w.cell? ⟨g,j,none⟩=some (.int .u64 (vs.getD j 0)))(hv:∀j,j<vs.length→0≤vs.getD j 0∧vs.getD j 0<topB size)(hm:vs.length≤16)(hl:l.length≤800000):
 Calls Tryz.prog 108 #[.pointer (some ⟨p,0,none⟩),.int .i64 size,.slice (some ⟨g,0,none⟩) vs.length vs.length] w (fun e w'=>e=.returned (.tuple #[])∧WrK w' p K (l++putsB size vs)∧Below p w w'∧Stays K w w'):=by
 have HW:=Lib.hid hw
 have HC:=Lib.hid hc
 have HV:=Lib.hid hv
 have HG:=Lib.hid hg
 have HP:Hid (∀(l:List Int) (v:Int) (w:World),0≤v→v<topB size→WrK w p K l→l.length≤900000→Calls Tryz.prog 65 #[.pointer (some ⟨p,0,none⟩),.int .u64 v,.int .i64 size] w (WrKPost w p K (l++putB size v))):=Lib.hid (fun l v w h0 h1 hw hm=>put_keep size hs p K l v h0 h1 w hw hm)
 have HT:Hid (∀k,k<vs.length→putsB size (vs.take (k+1))=putsB size (vs.take k)++putB size (vs.getD k 0)):=Lib.hid (fun k hk=>by rw[take_snoc' vs k hk,putsB_snoc])
 have HF:Hid (putsB size (vs.take vs.length)=putsB size vs):=Lib.hid (by rw[List.take_length])
 have HLN:Hid (∀k,(putsB size (vs.take k)).length≤2*vs.length):=Lib.hid (fun k=>by have:=putsB_len size (vs.take k);rw[List.length_take] at this;omega)
 have HZ:Hid (putsB size (vs.take 0)=[]):=Lib.hid rfl
 clear hw hc hv hg hs
 generalize hn:vs.length=n at*
 clear hn
 have hp:=HW.out.lt
 go_enter Tryz.func108,Tryz.ntmps108
 go_wp2_with fail
 go_loopw [10] (fun u10 wr=>∃k:Nat,k≤n∧u10=.int .i64 k∧Hid (WrK wr p K (l++putsB size (vs.take k))∧Below p w wr∧Stays K w wr)) (fun u10 _=>(n:Int)-intOf u10 |>.toNat)
 case atStart=>exact⟨0,Nat.zero_le _,rfl,Lib.hid ⟨by rw[HZ.out,List.append_nil];exact HW.out,Below.refl _ _,Stays.refl _ _⟩⟩
 case round=>
  obtain⟨k,hk,rfl,HS⟩:=hrel
  by_cases hlt:k<n
  ·have hck:=HC.out k hlt
   have hcw:wr.cell? ⟨g,k,none⟩=some (.int .u64 (vs.getD k 0)):=by
    rw[←hck];unfold World.cell?;simp only[HS.out.2.2 g HG.out]
   have HVK:=Lib.hid (HV.out k hlt)
   have HTK:=Lib.hid (HT.out k hlt)
   clear hck
   generalize vs.getD k 0=v at*
   go_wp2_with fail
   refine Calls.mono (HP.out _ v wr HVK.out.1 HVK.out.2 HS.out.1 (by rw[List.length_append];have:=HLN.out k;omega)) ?_
   rintro e w3 ⟨rfl,hW3,hb3,hs3⟩
   have HS3:Hid (WrK w3 p K (l++putsB size (vs.take (k+1)))∧Below p w w3∧Stays K w w3):=Lib.hid ⟨by rw[HTK.out,←List.append_assoc];exact hW3,HS.out.2.1.trans hb3,HS.out.2.2.trans hs3⟩
   clear hW3 hb3 hs3
   go_wp2_with fail
   go_roundw
   case rel=>exact⟨k+1,by omega,by go_num,HS3⟩
   case measure=>simp[intOf];omega
  ·obtain rfl:k=n:=by omega
   go_wp2_with fail
   go_end0
   have:=HS.out
   rw[HF.out] at this
   exact⟨rfl,this⟩
open Go.RowKit Bits
def newR (l:List Int)(lo hi:Nat)(v:Value)(w':World):Prop:=∃ob cb,v=.slice ob l.length cb∧Owns w' lo 1 ob l.length cb (l.map (.int .u8))∧∀a,ob=some a→a.block<hi
theorem newR_stable (l:List Int):Stable (newR l):=fun lo hi v w1 w2 ⟨ob,cb,e,ho,hl⟩ hh hb=>⟨ob,cb,e,ho.below hb,hl⟩
theorem newR_of {l:List Int}{w:World}{e:Ending}{w':World}(h:NewBytes w l e w'):∃v,e=.returned v∧Below w.heap.size w w'∧newR l w.heap.size w'.heap.size v w':=by
 obtain⟨oa,cap,rfl,ho,hb⟩:=h
 exact⟨_,rfl,hb,oa,cap,rfl,ho,fun a ha=>(ho.lt ha).2⟩
theorem set_two (l:List Int):∀(i:Nat) (a b:Int),i+2≤l.length→(l.set i a).set (i+1) b=l.take i++[a,b]++l.drop (i+2):=by
 induction l with
 |nil=>intro i a b h;simp at h
 |cons x r ih=>
  intro i a b h
  cases i with
  |zero=>
   cases r with
   |nil=>simp at h
   |cons y r=>simp
  |succ i=>
   have:=ih i a b (by simp at h;omega)
   simp only[List.set_cons_succ,List.take_succ_cons,List.cons_append,List.drop_succ_cons,this]
theorem set2_any (p:Nat)(l:List Int)(i:Nat)(v:Int)(h0:0≤v)(h1:v<65536)(w:World)(hw:Wr w p l)(hi:i+2≤l.length)(hm:l.length≤900000):
 Calls Tryz.prog 112 #[.pointer (some ⟨p,0,none⟩),.int .i64 i,.int .u64 v,.int .i64 2] w (WrPost w p (l.take i++be2 v++l.drop (i+2))):=by
 obtain⟨oa,cap,hc,ho⟩:=hw.row
 have HW:=Lib.hid hw
 have HO:=Lib.hid ho
 have hcap:=ho.le
 have hlt:=hw.lt
 clear hw ho
 obtain⟨n,hn⟩:∃n,l.length=n:=⟨_,rfl⟩
 rw[hn] at hc hcap hi hm
 have hcut:∀w,(Instr.slice 22 (.slice oa n cap) (some (.int .i64 (i:Int))) none none).run Tryz.prog w=.ok (.slice (cutAddr oa i cap 1) (n-i) (cap-i)) w:=fun w=>run_cut _ oa n cap 1 elemBytes sizeBytes i _ rfl (by omega) w
 go_enter Tryz.func112,Tryz.ntmps112
 go_wp2_with (go_at_call 124;refine Calls.later (fits_any v 2 h0 (by omega) (by decide) (by decide) _) ?_;intro x)
 have hcx:=(x.below.cell (p:=⟨p,0,none⟩) hlt).trans hc
 have HOX:=Lib.hid (HO.out.below x.below)
 have HWX:=Lib.hid (HW.out.later x)
 have hltx:p<x.world.heap.size:=Nat.lt_of_lt_of_le hlt x.below.size
 have HXB:=Lib.hid x.below
 have HOF:=Lib.hid (fun w=>of2_any v h0 h1 w)
 clear hc HO HW
 generalize x.world=y at*
 rw[hn] at HOX
 refine wp_region_cat 8 (newR (be2 v)) (by kernel_rfl) (by kernel_rfl) (by kernel_rfl) rfl rfl (by kernel_rfl) (newR_stable _) ?_
 apply Exists.intro
 refine⟨fun wx hbx=>?_,?_,?_⟩
 ·have hcxx:=(hbx.cell (p:=⟨p,0,none⟩) hltx).trans hcx
  have hltxx:p<wx.heap.size:=Nat.lt_of_lt_of_le hltx hbx.size
  simp only[List.take_succ_cons,List.take_zero]
  repeat go_big_quiet_step (fail)
  exact wpQuiet_nil rfl
 ·refine⟨rfl,fun w1 hb1=>.inr ⟨125,#[.int .u64 v,.int .i64 2],by kernel_rfl,(HOF.out w1).mono ?_⟩⟩
  intro e w2 hp
  exact newR_of hp
 ·rintro lo hi2 v1 w' hb' hlo hhi ⟨ob,cb,rfl,hob,hbl⟩
  simp only[List.drop_succ_cons,List.drop_zero]
  rcases HOX.out.at' with ⟨-,hz⟩|⟨g,off,rfl,hg1,hg2,-,-⟩
  ·omega
  rcases hob.at' with ⟨rfl,hz⟩|⟨g2,off2,rfl,-,-,hc2,-⟩
  ·have:=hob.le;simp[be2] at this;omega
  have hoy:=HOX.out.below hb'
  obtain⟨g',off',hee,-,hsm⟩:=hoy.here (by omega)
  have hd:cutAddr (some ⟨g,off,none⟩) i cap 1=some ⟨g,off+i,none⟩:=by
   have hck:¬cap=i:=by omega
   simp[cutAddr,hck,Addr.add_lit]
  have hcell:∀j,j<n→(w'.cell? ⟨g,off+j,none⟩).isSome=true∧w'.frozen? ⟨g,off+j,none⟩=false:=fun j hj=>by
   rcases hoy.at' with ⟨h,-⟩|⟨g3,off3,e,-,-,-,hf⟩
   ·cases h
   ·cases e;exact hf j (by omega)
  have HWY:Hid (Wr w' p l):=Lib.hid (HWX.out.below hb')
  have HW2:Hid (Wr ((w'.setCell ⟨g,off+i,none⟩ (.int .u8 (v/256%256))).setCell ⟨g,off+(i+1),none⟩ (.int .u8 (v%256))) p (l.take i++be2 v++l.drop (i+2))):=Lib.hid (by
   have hll:(l.take i++be2 v++l.drop (i+2)).length=n:=by simp[be2];omega
   have hcp:=(hb'.cell (p:=⟨p,0,none⟩) hltx).trans hcx
   have hst:=(hoy.set i (by omega) (.int .u8 (v/256%256))).set (i+1) (by omega) (.int .u8 (v%256))
   rw[←List.map_set,←List.map_set,set_two l i _ _ (by omega)] at hst
   refine⟨⟨some ⟨g,off,none⟩,cap,?_,?_⟩,?_,?_,?_⟩
   ·rw[World.cell?_setCell_other _ _ _ _ (by simp only[ne_eq,Addr.mk.injEq,not_and];omega),World.cell?_setCell_other _ _ _ _ (by simp only[ne_eq,Addr.mk.injEq,not_and];omega),hll]
    exact hcp
   ·rw[hll];exact hst
   ·rw[World.frozen?_setCell,World.frozen?_setCell];exact HWY.out.free
   ·simpa using HWY.out.lt
   ·intro u hu
    rcases List.mem_append.1 hu with hu|hu
    ·rcases List.mem_append.1 hu with hu|hu
     ·exact HWY.out.byte u (List.mem_of_mem_take hu)
     ·exact be2_bytes v u hu
    ·exact HWY.out.byte u (List.mem_of_mem_drop hu))
  have HB2:Hid (Below p w ((w'.setCell ⟨g,off+i,none⟩ (.int .u8 (v/256%256))).setCell ⟨g,off+(i+1),none⟩ (.int .u8 (v%256)))):=Lib.hid (((((HXB.out.mono (Nat.le_of_lt hlt)).trans (hb'.mono (Nat.le_of_lt hltx))).setCell (by simp only;omega) _)).setCell (by simp only;omega) _)
  refine Lib.wpList_copy_run _ rfl (.tmp 44) (.tmp 47) _ _ rfl (.slice (some ⟨g,off+i,none⟩) (n-i) (cap-i)) _ ?_ rfl (run_copy_cells w' _ _ _ 5 g (off+i) (n-i) (cap-i) ⟨g2,off2,none⟩ 2 cb [.int .u8 (v/256%256),.int .u8 (v%256)] Tryz.underlying22 (by kernel_rfl) ?_ ?_ ?_ ?_ ?_) ?_
  ·rw[←hd];rfl
  ·show 2=min 2 (n-i);omega
  ·intro j u hu
   rcases j with _|_|j
   ·cases hu;exact hc2 0 _ rfl
   ·cases hu;exact hc2 1 _ rfl
   ·cases hu
  ·intro j hj
   have hj2:j<2:=hj
   rw[Nat.add_assoc];exact(hcell (i+j) (by omega)).1
  ·intro j hj
   have hj2:j<2:=hj
   rw[Nat.add_assoc];exact(hcell (i+j) (by omega)).2
  ·intro u hu
   simp only[List.mem_cons,List.not_mem_nil,or_false] at hu
   rcases hu with rfl|rfl<;>rfl
  ·show wpList _ _ _ _ _ ((w'.setCell ⟨g,off+i,none⟩ (.int .u8 (v/256%256))).setCell ⟨g,off+i+1,none⟩ (.int .u8 (v%256)))
   rw[Nat.add_assoc off i 1]
   generalize (w'.setCell ⟨g,off+i,none⟩ (.int .u8 (v/256%256))).setCell ⟨g,off+(i+1),none⟩ (.int .u8 (v%256))=wz at*
   go_wp2_with fail
   go_ret
   exact⟨rfl,HW2.out,HB2.out⟩
end
section
open Go.RowKit Bits
def builtR (ob:Obj)(n:Nat)(lo hi:Nat)(v:Value)(w':World):Prop:=v=.slice (some ⟨lo,0,none⟩) n n∧hi=lo+1∧w'.heap[lo]? =some ob
theorem builtR_stable (ob:Obj)(n:Nat):Stable (builtR ob n):=fun lo hi v w1 w2 h hh hb=>⟨h.1,h.2.1,(hb.block _ (by have:=h.2.1;omega)).trans h.2.2⟩
section
variable {P:Program} {ops:Array Oper}
theorem wide_slice {o:Oper}{a:Act}{w:World}(t e:TypeId)(len:Nat)(parts:Array (Nat×Operand))(ho:o.op=.buildSlice t len parts)(hw:Region.wanted o (yielded ops a.tmps)=true)
 (cells:Array Value)(ie:TypeInfo)(z:Value)(hu:P.underlying t=some (.slice e))(hie:P.info? e=some ie)(hz:ie.zero=some z)(hsmall:¬len*ie.size>2^24)(hpos:¬len*ie.size=0)
 (hf:Instr.fill (fun i=>some (i*ie.size,ie.size)) ((Array.range (len*ie.size)).map (z.cells[·%z.cells.size]!)) (parts.map fun(i,x)=>(i,a.eval x)).toList=some cells):Wide P ops w o (builtR (.cells cells e) len) a:=by
 refine⟨hw,fun w1 _=>.inl ⟨_,w1.alloc (.cells cells e),?_,(Below.refl _ _).alloc (Nat.le_refl _) _,rfl,by simp,by show(w1.heap.push _)[w1.heap.size]? =_;simp⟩⟩
 unfold execOp
 simp only[ho,Sem.run_bind,run_buildSlice w1 t e len _ cells ie z hu hie hz hsmall hpos hf,Result.andThen_ok]
 rfl
end
end
section
open Go.RowKit Bits
structure IpOk (h:IpH):Prop where
 tos:0≤h.tos∧h.tos<256
 total:0≤h.total∧h.total<65536
 id:0≤h.id∧h.id<65536
 frag:0≤h.frag∧h.frag<65536
 ttl:0≤h.ttl∧h.ttl<256
 proto:0≤h.proto∧h.proto<256
 src:h.src.length=4∧IsBytes h.src
 dst:h.dst.length=4∧IsBytes h.dst
 opt:IsBytes h.opt
def ipPutErr (h:IpH):Int:=if ipRight h then 0 else 51
def ipPutL (h:IpH):List Int:=if ipRight h then ipPut h else []
theorem WrK.mono {w:World}{p:Nat}{K K':Nat→Prop}{l:List Int}(h:WrK w p K l)(hk:∀b,K' b→K b):WrK w p K' l:=by
 obtain⟨oa,cap,h1,h2,h3⟩:=h.row
 exact⟨⟨oa,cap,h1,h2,fun a ha hb=>h3 a ha (hk _ hb)⟩,h.free,h.lt,h.byte,fun hb=>h.ne (hk _ hb),fun b hb=>h.old b (hk b hb)⟩
theorem WrK.more {w w':World}{p lo:Nat}{K:Nat→Prop}{l:List Int}(h:WrK w p K l)(hb:Below w.heap.size w w')(hlo:w.heap.size≤lo)(hlt:lo<w'.heap.size):WrK w' p (fun b=>K b∨b=lo) l:=by
 obtain⟨oa,cap,h1,h2,h3⟩:=h.row
 have h':=h.below hb
 refine⟨⟨oa,cap,(hb.cell (p:=⟨p,0,none⟩) h.lt).trans h1,h2.below hb,fun a ha hk=>?_⟩,h'.free,h'.lt,h'.byte,?_,?_⟩
 ·rcases hk with hk|hk
  ·exact h3 a ha hk
  ·have:=(h2.lt ha).2;omega
 ·rintro(hk|hk)
  ·exact h.ne hk
  ·have:=h.lt;omega
 ·rintro b (hk|hk)
  ·exact h'.old b hk
  ·omega
theorem WrK.new {w:World}{p:Nat}{K:Nat→Prop}(hc:w.cell? ⟨p,0,none⟩=some (.slice none 0 0))(hf:w.frozen? ⟨p,0,none⟩=false)(hlt:p<w.heap.size)(hK:∀b,K b→b<p):WrK w p K []:=
 ⟨⟨none,0,hc,Owns.nil _ _ _,fun a ha=>by cases ha⟩,hf,hlt,by simp,fun h=>Nat.lt_irrefl _ (hK _ h),fun b hb=>Nat.lt_trans (hK b hb) hlt⟩
theorem bits_or_at (i a b:Nat)(hb:b<2^i)(h:2^i*a+b<18446744073709551616):bits .or .u64 ((2^i*a:Nat):Int) (b:Int)=((2^i*a+b:Nat):Int):=by
 have e:((BitVec.ofInt 64 ((2^i*a:Nat):Int)) ||| (BitVec.ofInt 64 (b:Int))).toNat=2^i*a+b:=by
  rw[BitVec.toNat_or,BitVec.ofInt_natCast,BitVec.ofInt_natCast,BitVec.toNat_ofNat,BitVec.toNat_ofNat,Nat.mod_eq_of_lt (by omega),Nat.mod_eq_of_lt (by omega)]
  exact(Nat.two_pow_add_eq_or_of_lt hb a).symm
 show IntKind.u64.wrap (((BitVec.ofInt 64 ((2^i*a:Nat):Int)) ||| (BitVec.ofInt 64 (b:Int))).toNat:Int)=_
 rw[e,IntWalk.u64_in _ (by omega)]
theorem bits_or_64 (k:Int)(h0:0≤k)(h1:k<64):bits .or .u64 64 k=64+k:=by
 obtain⟨b,rfl⟩:∃b:Nat,k=b:=⟨k.toNat,by omega⟩
 have:=bits_or_at 6 1 b (by omega) (by omega)
 simpa using this
theorem bits_or_flags (a b:Bool)(f:Int)(h0:0≤f)(h1:f<8192):
 bits .or .u64 (bits .or .u64 (if a then 16384 else 0) (if b then 8192 else 0)) f=(if a then 16384 else 0)+(if b then 8192 else 0)+f:=by
 obtain⟨x,rfl⟩:∃x:Nat,f=x:=⟨f.toNat,by omega⟩
 have e:bits .or .u64 (if a then 16384 else 0) (if b then 8192 else 0)=((2^13*((if a then 2 else 0)+(if b then 1 else 0)):Nat):Int):=by
  cases a<;>cases b<;>decide
 rw[e,bits_or_at 13 _ x (by omega) (by cases a<;>cases b<;>simp<;>omega)]
 cases a<;>cases b<;>simp
end
end Go.Proofs.YtkgjbipfhhjlpaaGreatDoor
