import Derived.Test.YtkgjbipfhhjlpaaGreatDoorMk7
import Derived.Test.YtkgjbipfhhjlpaaGreatDoorMk4
set_option linter.unusedVariables false
set_option linter.unusedSimpArgs false
set_option maxRecDepth 100000
set_option maxHeartbeats 32000000
namespace Go.Proofs.YtkgjbipfhhjlpaaGreatDoor
section
open Go.RowKit
theorem join_joinL (c:UInt8):∀l:List (List UInt8),Lib.join l [c]=joinL c l
 |[]=>rfl
 |[p]=>by rw[Lib.join_one];rfl
 |p::q::l=>by
  rw[Lib.join_cons,joinL_cons2,←join_joinL c (q::l),Lib.join_cons]
  simp[Lib.joinTail]
theorem join_any (oa:Option Addr)(n cap base:Nat)(L:List (List UInt8))(c:UInt8)(w:World)(hO:Owns w base 1 oa n cap (L.map strV))(hlen:(joinL c L).length≤140737488355328)(hn:n≤140737488355328):
 Calls Tryz.prog 70 #[.slice oa n cap,.string ⟨#[c]⟩] w (RetAt w (.string ⟨(joinL c L).toArray⟩)):=by
 have hLn:L.length=n:=by have:=hO.len;simpa using this
 rcases Nat.eq_zero_or_pos n with h0|h0
 ·subst h0
  obtain rfl:=List.eq_nil_of_length_eq_zero hLn
  refine Calls.mono (Tryz.strings_Join_none oa cap _ w) ?_
  rintro e w' ⟨rfl,rfl⟩
  exact .mk rfl (Below.refl _ _)
 ·obtain⟨g,off,rfl,hb,hg,hc,ht⟩:=hO.here h0
  have e1:(L.map fun l:List UInt8=>(⟨l.toArray⟩:ByteArray)).length=n:=by rw[List.length_map,hLn]
  have e2:((L.map fun l:List UInt8=>(⟨l.toArray⟩:ByteArray)).map (·.data.toList))=L:=by simp[Function.comp_def]
  have h:=Tryz.strings_Join g off cap (L.map fun l:List UInt8=>(⟨l.toArray⟩:ByteArray)) ⟨#[c]⟩ w (fun j x hx=>by
   refine hc j _ ?_
   rw[List.getElem?_map] at hx⊢
   cases h:L[j]? with
   |none=>rw[h] at hx;cases hx
   |some l=>rw[h] at hx;cases hx;rfl) hg (by rw[e1];exact hn) (by rw[e1];exact hO.le) (by rw[e2];show(Lib.join L [c]).length≤_;rw[join_joinL];exact hlen)
  rw[e1,e2,show(⟨#[c]⟩:ByteArray).data.toList=[c] from rfl,join_joinL] at h
  refine Calls.mono h ?_
  rintro e w' ⟨rfl,hb'⟩
  exact .mk rfl hb'
theorem itoa_any (u:Nat)(hu:u<9223372036854775808)(w:World)(henv:Env w):Calls Tryz.prog 71 #[.int .i64 (u:Int)] w (RetAt w (.string ⟨(Lib.decDigits u).toArray⟩)):=by
 refine Calls.mono (Tryz.strconv_Itoa (u:Int) (by omega) (by omega) w henv.tab) ?_
 rintro e w' ⟨rfl,k,os,rfl⟩
 refine .mk ?_ (Lib.below_grow _ _ (Nat.le_refl _) _ _)
 unfold Lib.itoa
 rw[if_neg (by omega)]
 rfl
theorem decDigits_small (u:Nat)(h:u<256):(Lib.decDigits u).length≤257:=by
 rw[←digB_ten u u (Nat.le_refl _)]
 have:=digB_len 10 u u (Nat.le_refl _)
 omega
theorem joinL_len (c:UInt8)(m:Nat):∀L:List (List UInt8),(∀p∈L,p.length≤m)→(joinL c L).length≤L.length*(m+1)
 |[],_=>by simp[joinL]
 |[p],h=>by have:=h p (by simp);simp[joinL];omega
 |p::q::l,h=>by
  have h1:=h p (by simp)
  have h2:=joinL_len c m (q::l) (fun x hx=>h x (by simp at hx⊢;exact .inr hx))
  have h3:(p::q::l).length*(m+1)=(q::l).length*(m+1)+(m+1):=by rw[List.length_cons (a:=p),Nat.add_mul,Nat.one_mul]
  rw[joinL_cons2,List.length_append,List.length_cons]
  omega
theorem text_four (B:Nat→Int)(hB:U8 B)(hr:rightB false B=true)(w:World)(henv:Env w):
 Calls Tryz.prog 72 #[adV false B] w (RetAt w (.string ⟨(text4 fun i=>(B i).toNat).toArray⟩)):=by
 have HE:=Lib.hid henv
 have HU:=Lib.hid hB
 have HR:Hid (∀w,Calls Tryz.prog 68 #[adV false B] w (RetAt w (.bool true))):=Lib.hid fun w=>by rw[←hr];exact right_any false B w
 clear henv hB hr
 have HX:Hid (AdBox (w.alloc (.cells #[.bool false,.int .u8 (B 0),.int .u8 (B 1),.int .u8 (B 2),.int .u8 (B 3),.int .u8 (B 4),.int .u8 (B 5),.int .u8 (B 6),.int .u8 (B 7),.int .u8 (B 8),.int .u8 (B 9),.int .u8 (B 10),.int .u8 (B 11),.int .u8 (B 12),.int .u8 (B 13),.int .u8 (B 14),.int .u8 (B 15)] 27)) w.heap.size 27 false B):=Lib.hid (AdBox.made w _ false B)
 have HW:Hid (Below w.heap.size w (w.alloc (.cells #[.bool false,.int .u8 (B 0),.int .u8 (B 1),.int .u8 (B 2),.int .u8 (B 3),.int .u8 (B 4),.int .u8 (B 5),.int .u8 (B 6),.int .u8 (B 7),.int .u8 (B 8),.int .u8 (B 9),.int .u8 (B 10),.int .u8 (B 11),.int .u8 (B 12),.int .u8 (B 13),.int .u8 (B 14),.int .u8 (B 15)] 27))):=Lib.hid (Below.all (Below.refl w.heap.size w) _)
 unfold adV at*
 go_enter Tryz.func72,Tryz.ntmps72
 go_wp2_with fail
 generalize hw1:w.alloc (.cells #[.bool false,.int .u8 (B 0),.int .u8 (B 1),.int .u8 (B 2),.int .u8 (B 3),.int .u8 (B 4),.int .u8 (B 5),.int .u8 (B 6),.int .u8 (B 7),.int .u8 (B 8),.int .u8 (B 9),.int .u8 (B 10),.int .u8 (B 11),.int .u8 (B 12),.int .u8 (B 13),.int .u8 (B 14),.int .u8 (B 15)] 27)=w1 at*
 have hs1:w1.heap.size=w.heap.size+1:=by rw[←hw1];simp
 clear hw1
 refine Calls.mono (HR.out _) ?_
 rintro e w2 ⟨rfl,hb2⟩
 have HX2:=Lib.hid (HX.out.below hb2)
 have HW2:=Lib.hid (Below.via HW.out hb2)
 have hs2:w.heap.size+1≤w2.heap.size:=by have:=hb2.size;omega
 have hsx:=HX2.out.six
 clear hb2 HX HW hs1
 go_wp2_with fail
 clear hsx
 go_loopw [3,20] (fun u3 u20 wr=>∃(k:Nat) (oa:Option Addr) (cap:Nat),k≤4∧u20=.int .i64 k∧u3=.slice oa k cap∧Hid (Owns wr (w.heap.size+1) 1 oa k cap (((List.range k).map fun i=>Lib.decDigits (B i).toNat).map strV))∧Hid (AdBox wr w.heap.size 27 false B)∧Hid (Below w.heap.size w wr)∧w.heap.size+1≤wr.heap.size) (fun _ u20 _=>(4:Int)-intOf u20 |>.toNat)
 case atStart=>exact⟨0,none,0,by omega,rfl,rfl,Lib.hid (Owns.nil _ _ _),HX2,HW2,hs2⟩
 case round=>
  obtain⟨k,oa,cap,hk,rfl,rfl,HO,HX,HW,hsr⟩:=hrel
  by_cases hlt:k<4
  ·have hcx:=HX.out.cell k (by omega)
   have hbk:=HU.out k
   have HR1:Hid (List.range (k+1)=List.range k++[k]):=Lib.hid List.range_succ
   obtain⟨b,hbe⟩:=Int.eq_ofNat_of_zero_le hbk.1
   have HBE:=Lib.hid hbe
   rw[hbe] at hcx hbk
   clear hbe
   go_wp2_with fail
   refine Calls.mono (itoa_any b (by omega) wr (HE.out.below HW.out)) ?_
   rintro e w3 ⟨rfl,hb3⟩
   have HO3:=Lib.hid (HO.out.below hb3)
   have HX3:=Lib.hid (HX.out.below hb3)
   have HW3:=Lib.hid (Below.via HW.out hb3)
   have hs3:w.heap.size+1≤w3.heap.size:=by have:=hb3.size;omega
   have HLT:=Lib.hid (fun a (ha:oa=some a)=>(HO3.out.lt ha).1)
   clear hb3 hcx HO HX HW hsr
   go_wp2_with (at_builtin;refine Stopped.of ?_)
   refine Stopped.mk ?_
   refine wpList_append_owns _ rfl _ _ 76 rfl 9 (.string ⟨#[]⟩) 1 16 (w.heap.size+1) Tryz.underlying76 info_str rfl (by decide) oa k cap _ rfl (HO3.out.alloc _) ⟨w3.heap.size,0,none⟩ 1 1 [.string ⟨(Lib.decDigits b).toArray⟩] rfl rfl ?_ ?_ (by decide) ?_ ?_ ?_ ?_
   ·exact news_new _ _ _
   ·simp[Value.oneCell']
   ·unfold maxLen;omega
   ·omega
   ·simp only[World.size_alloc];omega
   intro oa' cap' w4 ho' hg hd
   have HX4:=Lib.hid ((HX3.out.alloc (.cells #[.string ⟨(Lib.decDigits b).toArray⟩] 9)).keep (hg.block _ (by simp;omega) (fun e=>by
    obtain⟨a,ha,hab⟩:=Option.map_eq_some_iff.1 e.symm
    have:=HLT.out a ha;omega)))
   have HW4:Hid (Below w.heap.size w w4):=Lib.hid (Below.appended (Below.all HW3.out _) (HO3.out.alloc _) (by omega) hg (by simp only[World.size_alloc];omega))
   have hs4:w.heap.size+1≤w4.heap.size:=by have:=hg.size;simp only[World.size_alloc] at this;omega
   have HO4:Hid (Owns w4 (w.heap.size+1) 1 oa' (k+1) cap' (((List.range (k+1)).map fun i=>Lib.decDigits (B i).toNat).map strV)):=Lib.hid (by
    rw[HR1.out,List.map_append,List.map_append]
    simp only[List.map_cons,List.map_nil]
    rw[HBE.out]
    exact ho')
   clear hg hd ho' HX3 HW3 HO3 hs3 HLT
   go_wp2_with fail
   go_roundw
   case rel=>exact⟨k+1,oa',cap',by omega,by go_num,rfl,HO4,HX4,HW4,hs4⟩
   case measure=>simp[intOf];omega
  ·obtain rfl:k=4:=by omega
   go_wp2_with fail
   refine Calls.mono (join_any oa 4 cap _ _ 46 wr HO.out ?_ (by omega)) ?_
   ·refine Nat.le_trans (joinL_len 46 257 _ fun p hp=>?_) (by simp)
    obtain⟨i,-,rfl⟩:=List.mem_map.1 hp
    exact decDigits_small _ (by have:=HU.out i;omega)
   rintro e w3 ⟨rfl,hb3⟩
   have HW3:=Lib.hid (Below.via HW.out hb3)
   go_wp2_with fail
   go_ret
   exact .mk rfl HW3.out
def grpN (B:Nat→Int)(k:Nat):Nat:=(grpI B k).toNat
theorem grpN_lt {B:Nat→Int}(hB:U8 B)(k:Nat):grpN B k<65536:=by have:=grpI_bd hB k;unfold grpN;omega
theorem grpN_eq {B:Nat→Int}(hB:U8 B)(k:Nat):grpI B k=(grpN B k:Int):=by have:=grpI_bd hB k;unfold grpN;omega
theorem zg_grp {B:Nat→Int}(hB:U8 B)(k:Nat)(h:k<8):zg (grpN B) k=(grpI B k==0):=by
 rw[zg_at _ _ h,grpN_eq hB k,Bool.eq_iff_iff]
 simp only[beq_iff_eq]
 omega
theorem noughts_bd (z:Nat→Bool)(hz:∃a b c d e f g h:Bool,z=zof [a,b,c,d,e,f,g,h]):(noughtsZ z).1≤(noughtsZ z).2∧(noughtsZ z).2≤8:=by
 obtain⟨a,b,c,d,e,f,g,h,rfl⟩:=hz
 exact noughts_bd8 a b c d e f g h
theorem text6_of (g:Nat→Nat):text6 g=if (noughtsZ (zg g)).1=(noughtsZ (zg g)).2 then joinL 58 ((List.range 8).map fun i=>digB 16 (g i))
 else joinL 58 (((List.range 8).map fun i=>digB 16 (g i)).take (noughtsZ (zg g)).1)++[58,58]++joinL 58 (((List.range 8).map fun i=>digB 16 (g i)).drop (noughtsZ (zg g)).2):=by
 unfold text6 progTok
 split
 ·exact flat_join _ _
 ·rw[flatT_append,flatT_append,flat_join,flat_join,List.map_take,List.map_drop];rfl
theorem text_six (B:Nat→Int)(hB:U8 B)(w:World)(henv:Env w):
 Calls Tryz.prog 72 #[adV true B] w (RetAt w (.string ⟨(text6 (grpN B)).toArray⟩)):=by
 have HE:=Lib.hid henv
 have HU:=Lib.hid hB
 have HR:Hid (∀w,Calls Tryz.prog 68 #[adV true B] w (RetAt w (.bool true))):=Lib.hid fun w=>right_any true B w
 have HG:=Lib.hid (fun k hk w=>group_any true B hB k hk w)
 have HN:=Lib.hid (fun w=>noughts_any true B hB (zg (grpN B)) (fun k hk=>zg_grp hB k hk) w)
 have HNB:=noughts_bd (zg (grpN B)) ⟨_,_,_,_,_,_,_,_,rfl⟩
 have HT:=Lib.hid (text6_of (grpN B))
 have HGL:=Lib.hid (fun k=>grpN_lt hB k)
 have HGE:=Lib.hid (fun k=>grpN_eq hB k)
 clear henv hB
 generalize text6 (grpN B)=T at*
 generalize noughtsZ (zg (grpN B))=ft at*
 obtain⟨f,t⟩:=ft
 simp only at HN HNB HT
 obtain⟨hft,ht8⟩:=HNB
 have HX:Hid (AdBox (w.alloc (.cells #[.bool true,.int .u8 (B 0),.int .u8 (B 1),.int .u8 (B 2),.int .u8 (B 3),.int .u8 (B 4),.int .u8 (B 5),.int .u8 (B 6),.int .u8 (B 7),.int .u8 (B 8),.int .u8 (B 9),.int .u8 (B 10),.int .u8 (B 11),.int .u8 (B 12),.int .u8 (B 13),.int .u8 (B 14),.int .u8 (B 15)] 27)) w.heap.size 27 true B):=Lib.hid (AdBox.made w _ true B)
 have HW:Hid (Below w.heap.size w (w.alloc (.cells #[.bool true,.int .u8 (B 0),.int .u8 (B 1),.int .u8 (B 2),.int .u8 (B 3),.int .u8 (B 4),.int .u8 (B 5),.int .u8 (B 6),.int .u8 (B 7),.int .u8 (B 8),.int .u8 (B 9),.int .u8 (B 10),.int .u8 (B 11),.int .u8 (B 12),.int .u8 (B 13),.int .u8 (B 14),.int .u8 (B 15)] 27))):=Lib.hid (Below.all (Below.refl w.heap.size w) _)
 unfold adV at*
 go_enter Tryz.func72,Tryz.ntmps72
 go_wp2_with fail
 generalize hw1:w.alloc (.cells #[.bool true,.int .u8 (B 0),.int .u8 (B 1),.int .u8 (B 2),.int .u8 (B 3),.int .u8 (B 4),.int .u8 (B 5),.int .u8 (B 6),.int .u8 (B 7),.int .u8 (B 8),.int .u8 (B 9),.int .u8 (B 10),.int .u8 (B 11),.int .u8 (B 12),.int .u8 (B 13),.int .u8 (B 14),.int .u8 (B 15)] 27)=w1 at*
 have hs1:w1.heap.size=w.heap.size+1:=by rw[←hw1];simp
 clear hw1
 refine Calls.mono (HR.out _) ?_
 rintro e w2 ⟨rfl,hb2⟩
 have HX2:=Lib.hid (HX.out.below hb2)
 have HW2:=Lib.hid (Below.via HW.out hb2)
 have hs2:w.heap.size+1≤w2.heap.size:=by have:=hb2.size;omega
 have hsx:=HX2.out.six
 clear hb2 HX HW hs1
 go_wp2_with fail
 clear hsx
 go_loopw [3,33] (fun u3 u33 wr=>∃(k:Nat) (oa:Option Addr) (cap:Nat),k≤8∧u33=.int .i64 k∧u3=.slice oa k cap∧Hid (Owns wr (w.heap.size+1) 1 oa k cap (((List.range k).map fun i=>digB 16 (grpN B i)).map strV))∧Hid (AdBox wr w.heap.size 27 true B)∧Hid (Below w.heap.size w wr)∧w.heap.size+1≤wr.heap.size) (fun _ u33 _=>(8:Int)-intOf u33 |>.toNat)
 case atStart=>exact⟨0,none,0,by omega,rfl,rfl,Lib.hid (Owns.nil _ _ _),HX2,HW2,hs2⟩
 case round=>
  obtain⟨k,oa,cap,hk,rfl,rfl,HO,HX,HW,hsr⟩:=hrel
  by_cases hlt:k<8
  ·have hpp:=HX.out.part
   have HR1:Hid (List.range (k+1)=List.range k++[k]):=Lib.hid List.range_succ
   have HGk:=Lib.hid (HG.out k hlt)
   have hgl:=HGL.out k
   rw[HGE.out k] at HGk
   have HBE:Hid (∃b,grpN B k=b):=Lib.hid ⟨_,rfl⟩
   obtain⟨b,hbe⟩:=HBE.out
   clear HBE
   have HBE:=Lib.hid hbe
   rw[hbe] at HGk hgl
   clear hbe
   go_wp2_with fail
   refine Calls.mono (HGk.out _) ?_
   rintro e w3 ⟨rfl,hb3⟩
   have HO3:=Lib.hid (HO.out.below hb3)
   have HX3:=Lib.hid (HX.out.below hb3)
   have HW3:=Lib.hid (Below.via HW.out hb3)
   have hs3:w.heap.size+1≤w3.heap.size:=by have:=hb3.size;omega
   clear hb3 hpp HO HX HW hsr
   go_wp2_with fail
   refine Calls.mono (fmt_16 b hgl w3 (HE.out.below HW3.out)) ?_
   rintro e w4 ⟨rfl,hb4⟩
   have HO4:=Lib.hid (HO3.out.below hb4)
   have HX4:=Lib.hid (HX3.out.below hb4)
   have HW4:=Lib.hid (Below.via HW3.out hb4)
   have hs4:w.heap.size+1≤w4.heap.size:=by have:=hb4.size;omega
   have HLT:=Lib.hid (fun a (ha:oa=some a)=>(HO4.out.lt ha).1)
   clear hb4 HO3 HX3 HW3 hs3
   go_wp2_with (at_builtin;refine Stopped.of ?_)
   refine Stopped.mk ?_
   refine wpList_append_owns _ rfl _ _ 76 rfl 9 (.string ⟨#[]⟩) 1 16 (w.heap.size+1) Tryz.underlying76 info_str rfl (by decide) oa k cap _ rfl (HO4.out.alloc _) ⟨w4.heap.size,0,none⟩ 1 1 [.string ⟨(digB 16 b).toArray⟩] rfl rfl ?_ ?_ (by decide) ?_ ?_ ?_ ?_
   ·exact news_new _ _ _
   ·simp[Value.oneCell']
   ·unfold maxLen;omega
   ·omega
   ·simp only[World.size_alloc];omega
   intro oa' cap' w5 ho' hg hd
   have HX5:=Lib.hid ((HX4.out.alloc (.cells #[.string ⟨(digB 16 b).toArray⟩] 9)).keep (hg.block _ (by simp;omega) (fun e=>by
    obtain⟨a,ha,hab⟩:=Option.map_eq_some_iff.1 e.symm
    have:=HLT.out a ha;omega)))
   have HW5:Hid (Below w.heap.size w w5):=Lib.hid (Below.appended (Below.all HW4.out _) (HO4.out.alloc _) (by omega) hg (by simp only[World.size_alloc];omega))
   have hs5:w.heap.size+1≤w5.heap.size:=by have:=hg.size;simp only[World.size_alloc] at this;omega
   have HO5:Hid (Owns w5 (w.heap.size+1) 1 oa' (k+1) cap' (((List.range (k+1)).map fun i=>digB 16 (grpN B i)).map strV)):=Lib.hid (by
    rw[HR1.out,List.map_append,List.map_append]
    simp only[List.map_cons,List.map_nil]
    rw[HBE.out]
    exact ho')
   clear hg hd ho' HX4 HW4 HO4 hs4 HLT
   go_wp2_with fail
   go_roundw
   case rel=>exact⟨k+1,oa',cap',by omega,by go_num,rfl,HO5,HX5,HW5,hs5⟩
   case measure=>simp[intOf];omega
  ·obtain rfl:k=8:=by omega
   have hpp:=HX.out.part
   have HPL:Hid (∀p∈(List.range 8).map fun i=>digB 16 (grpN B i),p.length≤4):=Lib.hid fun p hp=>by
    obtain⟨i,-,rfl⟩:=List.mem_map.1 hp
    exact digB16_len _ (HGL.out i)
   have HPN:Hid (((List.range 8).map fun i=>digB 16 (grpN B i)).length=8):=Lib.hid (by simp)
   clear HGL HGE HG HU HR
   generalize ((List.range 8).map fun i=>digB 16 (grpN B i))=P at*
   go_wp2_with fail
   refine Calls.mono (HN.out _) ?_
   rintro e w3 ⟨rfl,hb3⟩
   have HO3:=Lib.hid (HO.out.below hb3)
   have HW3:=Lib.hid (Below.via HW.out hb3)
   clear hb3 hpp HX HO HW HN
   by_cases hz:f=t
   ·have HT2:=HT.out
    rw[if_pos hz] at HT2
    have HT3:=Lib.hid HT2
    have hz2:(f:Int)=t:=by omega
    clear HT2 HT hz
    go_wp2_with fail
    refine Calls.mono (join_any oa 8 cap _ _ 58 w3 HO3.out (Nat.le_trans (joinL_len 58 4 _ HPL.out) (by rw[HPN.out];decide)) (by omega)) ?_
    rintro e w4 ⟨rfl,hb4⟩
    have HW4:=Lib.hid (Below.via HW3.out hb4)
    go_wp2_with fail
    go_ret
    exact .mk (by rw[HT3.out];rfl) HW4.out
   ·have HT2:=HT.out
    rw[if_neg hz] at HT2
    have HT3:=Lib.hid HT2
    have hz2:¬((f:Int)=t):=by omega
    have HT1:Hid (Owns w3 (w.heap.size+1) 1 oa f cap ((P.take f).map strV)):=Lib.hid (by rw[List.map_take];have:=HO3.out.take f (by omega);rwa [Nat.mul_one] at this)
    have HT4:Hid (Owns w3 (w.heap.size+1) 1 (cutAddr oa t cap 1) (8-t) (cap-t) ((P.drop t).map strV)):=Lib.hid (by rw[List.map_drop];have:=HO3.out.cut t (by omega);rwa [Nat.mul_one] at this)
    have hcap:=HO3.out.le
    have hct:=fun w=>run_cutTo (P:=Tryz.prog) 76 oa 8 cap 1 Tryz.underlying76 (by kernel_rfl) f (f:Int) rfl (by omega) w
    have hcu:=fun w=>run_cut (P:=Tryz.prog) 76 oa 8 cap 1 Tryz.underlying76 (by kernel_rfl) t (t:Int) rfl (by omega) w
    have hA:(joinL 58 (P.take f)).length≤1000:=Nat.le_trans (joinL_len 58 4 _ fun p hp=>HPL.out p (List.mem_of_mem_take hp)) (by rw[List.length_take,HPN.out];omega)
    have hC:(joinL 58 (P.drop t)).length≤1000:=Nat.le_trans (joinL_len 58 4 _ fun p hp=>HPL.out p (List.mem_of_mem_drop hp)) (by rw[List.length_drop,HPN.out];omega)
    have HJ1:=Lib.hid (fun(x:Later w3)=>join_any oa f cap _ _ 58 _ (HT1.out.later x) (by omega) (by omega))
    have HJ2:=Lib.hid (fun(x:Later w3)=>join_any _ (8-t) (cap-t) _ _ 58 _ (HT4.out.later x) (by omega) (by omega))
    generalize joinL 58 (P.take f)=A at*
    generalize joinL 58 (P.drop t)=C at*
    generalize cutAddr oa t cap 1=oc at*
    clear HT2 HT hz HT1 HT4 HO3 HPL HPN
    go_wp2_with fail
    have hl1:A.length+2≤9223372036854775807:=by omega
    have hl2:(A.length:Int)+2≤9223372036854775807:=by omega
    have hl3:A.length+2+C.length≤9223372036854775807:=by omega
    have hl4:(A.length:Int)+2+(C.length:Int)≤9223372036854775807:=by omega
    refine wp_region_later (by kernel_rfl) (by kernel_rfl) ?_
    iterate 3 go_big_quiet_step (fail)
    go_big_quiet_step ((go_at_call 70;exact later_call (HJ1.out _)))
    iterate 4 go_big_quiet_step (fail)
    go_big_quiet_step ((go_at_call 70;exact later_call (HJ2.out _)))
    repeat go_big_quiet_step (fail)
    refine wpQuiet_nil ?_
    intro x
    go_wp2_with fail
    go_ret
    refine .mk ?_ (HW3.out.trans (x.below.mono HW3.out.size))
    rw[HT3.out,←bytes_append,←bytes_append];rfl
theorem text_wrong (six:Bool)(B:Nat→Int)(hr:rightB six B=false)(w:World):
 Calls Tryz.prog 72 #[adV six B] w (RetAt w (.string ⟨([]:List UInt8).toArray⟩)):=by
 have HR:Hid (∀w,Calls Tryz.prog 68 #[adV six B] w (RetAt w (.bool false))):=Lib.hid fun w=>by rw[←hr];exact right_any six B w
 clear hr
 unfold adV at*
 go_enter Tryz.func72,Tryz.ntmps72
 go_wp2_with fail
 refine Calls.later (HR.out _) ?_
 intro x
 go_wp2_with fail
 go_ret
 exact .mk rfl (Below.lat (Below.all (Below.refl _ _) _))
def adText (six:Bool)(B:Nat→Int):List UInt8:=if rightB six B=true then (if six=true then text6 (grpN B) else text4 fun i=>(B i).toNat) else []
theorem text_any (six:Bool)(B:Nat→Int)(hB:U8 B)(w:World)(henv:Env w):
 Calls Tryz.prog 72 #[adV six B] w (RetAt w (.string ⟨(adText six B).toArray⟩)):=by
 unfold adText
 by_cases h:rightB six B=true
 ·rw[if_pos h]
  cases six
  ·exact text_four B hB h w henv
  ·exact text_six B hB w henv
 ·rw[if_neg h]
  exact text_wrong six B (by simpa using h) w
theorem groupsL_len {s:List UInt8}{L:List Nat}(h:groupsL s=some L):L.length≤s.length+1:=by
 unfold groupsL at h
 split at h
 ·cases h;simp
 ·have:=mapM_len _ _ _ h
  have:=cutsL_count 58 s
  omega
def GroupsPost2 (w:World)(o:Option (List Nat))(m:Nat):Ending→World→Prop:=fun e w'=>∃(oa:Option Addr) (cap:Nat) (G:List Nat) (ok:Bool),e=.returned (.tuple #[.slice oa G.length cap,.bool ok])∧
 Owns w' w.heap.size 1 oa G.length cap (G.map fun(n:Nat)=>Value.int .i64 (n:Int))∧Below w.heap.size w w'∧G.length≤m+1∧((ok=true∧o=some G)∨(ok=false∧o=none))
theorem groups_two_len (s:ByteArray){L:List Nat}(h:groupsL s.data.toList=some L):L.length≤s.size+1:=by
 have h5:=groupsL_len h
 have h6:s.data.toList.length=s.size:=by rw[Array.length_toList,ByteArray.size_data]
 omega
theorem groups_two (s:ByteArray)(w:World)(hs:s.size≤1000):Calls Tryz.prog 175 #[.string s] w (GroupsPost2 w (groupsL s.data.toList) s.size):=by
 refine Calls.mono (groups_any s w hs) ?_
 rintro e w' (⟨h1,rfl,h3⟩|⟨L,oa,cap,h1,rfl,h3,h4⟩)
 ·exact⟨none,0,[],false,rfl,Owns.nil _ _ _,h3,by simp,.inr ⟨rfl,h1⟩⟩
 ·exact⟨oa,cap,L,true,rfl,h3,h4,groups_two_len s h1,.inl ⟨rfl,h1⟩⟩
theorem slice_two (s:ByteArray)(k:Nat)(h:k+1<s.size)(w:World):(Instr.slice 9 (.string s) (some (.int .i64 (k:Int))) (some (.int .i64 ((k:Int)+2))) none).run Tryz.prog w=.ok (.string ⟨[s[k],s[k+1]].toArray⟩) w:=by
 have e:s.extract k (k+2)=⟨[s[k],s[k+1]].toArray⟩:=by
  apply WideShapes.bytes_inj
  rw[Lib.extract_data]
  rw[show k+2-k=2 by omega,drop_cons8 s k (by omega),drop_cons8 s (k+1) h]
  rfl
 rw[run_slice_string w 9 s .i64 .i64 (k:Int) ((k:Int)+2) Tryz.underlying9 (by omega) (by omega) (by omega)]
 rw[show((k:Int)+2).toNat=k+2 by omega,Int.toNat_natCast,e]
theorem slice_head (s:ByteArray)(k:Nat)(h:k≤s.size)(w:World):(Instr.slice 9 (.string s) none (some (.int .i64 (k:Int))) none).run Tryz.prog w=.ok (.string ⟨(s.data.toList.take k).toArray⟩) w:=by
 have e:s.extract 0 k=⟨(s.data.toList.take k).toArray⟩:=by
  apply WideShapes.bytes_inj
  rw[Lib.extract_data]
  simp
 rw[run_slice_string_h w 9 s Tryz.underlying9 .i64 (k:Int) (by omega) (by omega)]
 rw[Int.toNat_natCast,e]
theorem slice_tail (s:ByteArray)(k:Nat)(i:Int)(hi:i=(k:Int))(h:k≤s.size)(w:World):(Instr.slice 9 (.string s) (some (.int .i64 i)) none none).run Tryz.prog w=.ok (.string ⟨(s.data.toList.drop k).toArray⟩) w:=by
 subst hi
 have e:s.extract k s.size=⟨(s.data.toList.drop k).toArray⟩:=by
  apply WideShapes.bytes_inj
  rw[Lib.extract_data,List.take_of_length_le (by rw[List.length_drop,Array.length_toList,ByteArray.size_data];exact Nat.le_refl _)]
 rw[run_slice_string_l w 9 s Tryz.underlying9 .i64 (k:Int) (by omega) (by omega)]
 rw[Int.toNat_natCast,e]
theorem idx_hit (s:ByteArray)(k:Nat)(h:k+1<s.size)(h1:s[k]=58)(h2:s[k+1]=58):Lib.index (s.data.toList.drop k) [58,58]=0:=by
 rw[drop_cons8 s k (by omega),drop_cons8 s (k+1) h,h1,h2,index_hit2]
theorem idx_miss (s:ByteArray)(k:Nat)(h:k+1<s.size)(h1:¬(s[k]=58∧s[k+1]=58)):Lib.index (s.data.toList.drop k) [58,58]=if Lib.index (s.data.toList.drop (k+1)) [58,58]=-1 then-1 else Lib.index (s.data.toList.drop (k+1)) [58,58]+1:=by
 rw[drop_cons8 s k (by omega)]
 refine index_step _ _ ?_
 rintro⟨t,ht⟩
 rw[drop_cons8 s (k+1) h] at ht
 simp only[List.cons.injEq] at ht
 exact h1 ⟨ht.1,ht.2.1⟩
theorem idx_end (s:ByteArray)(k:Nat)(h:s.size≤k+1):Lib.index (s.data.toList.drop k) [58,58]=-1:=by
 by_cases hk:k<s.size
 ·rw[drop_cons8 s k hk,List.drop_eq_nil_of_le (by rw[Array.length_toList,ByteArray.size_data];omega)]
  simp[Lib.index]
 ·rw[List.drop_eq_nil_of_le (by rw[Array.length_toList,ByteArray.size_data];omega)]
  rfl
theorem idx_bd (s:ByteArray)(h:Lib.index s.data.toList [58,58]≠-1):0≤Lib.index s.data.toList [58,58]∧Lib.index s.data.toList [58,58]+2≤s.size:=by
 have h0:=Lib.index_ge s.data.toList [58,58]
 refine⟨by omega,?_⟩
 have hl:∀l:List UInt8,Lib.index l [58,58]≠-1→Lib.index l [58,58]+2≤l.length:=by
  intro l
  induction l with
  |nil=>intro h;exact absurd rfl h
  |cons x r ih=>
   intro h
   by_cases hp:∃t,x::r=58::58::t
   ·obtain⟨t,ht⟩:=hp
    rw[ht,index_hit2]
    simp only[List.length_cons]
    omega
   ·rw[index_step x r hp] at h⊢
    by_cases e:Lib.index r [58,58]=-1
    ·rw[if_pos e] at h;exact absurd rfl h
    ·rw[if_neg e]
     have:=ih e
     simp only[List.length_cons]
     omega
 have:=hl _ h
 rwa [Array.length_toList,ByteArray.size_data] at this
theorem rsix_any (s:ByteArray)(w:World)(hs:s.size≤1000):Calls Tryz.prog 122 #[.string s] w (SixPost w (sixL s.data.toList)):=by
 have HX:Hid (AdBox (w.alloc (.cells #[.bool false,.int .u8 ((fun _=>(0:Int)) 0),.int .u8 ((fun _=>(0:Int)) 1),.int .u8 ((fun _=>(0:Int)) 2),.int .u8 ((fun _=>(0:Int)) 3),.int .u8 ((fun _=>(0:Int)) 4),.int .u8 ((fun _=>(0:Int)) 5),.int .u8 ((fun _=>(0:Int)) 6),.int .u8 ((fun _=>(0:Int)) 7),.int .u8 ((fun _=>(0:Int)) 8),.int .u8 ((fun _=>(0:Int)) 9),.int .u8 ((fun _=>(0:Int)) 10),.int .u8 ((fun _=>(0:Int)) 11),.int .u8 ((fun _=>(0:Int)) 12),.int .u8 ((fun _=>(0:Int)) 13),.int .u8 ((fun _=>(0:Int)) 14),.int .u8 ((fun _=>(0:Int)) 15)] 36)) w.heap.size 36 false fun _=>0):=Lib.hid (AdBox.made w _ false fun _=>0)
 have HW:Hid (Below w.heap.size w (w.alloc (.cells #[.bool false,.int .u8 ((fun _=>(0:Int)) 0),.int .u8 ((fun _=>(0:Int)) 1),.int .u8 ((fun _=>(0:Int)) 2),.int .u8 ((fun _=>(0:Int)) 3),.int .u8 ((fun _=>(0:Int)) 4),.int .u8 ((fun _=>(0:Int)) 5),.int .u8 ((fun _=>(0:Int)) 6),.int .u8 ((fun _=>(0:Int)) 7),.int .u8 ((fun _=>(0:Int)) 8),.int .u8 ((fun _=>(0:Int)) 9),.int .u8 ((fun _=>(0:Int)) 10),.int .u8 ((fun _=>(0:Int)) 11),.int .u8 ((fun _=>(0:Int)) 12),.int .u8 ((fun _=>(0:Int)) 13),.int .u8 ((fun _=>(0:Int)) 14),.int .u8 ((fun _=>(0:Int)) 15)] 36))):=Lib.hid (Below.all (Below.refl w.heap.size w) _)
 have HIE:=Lib.hid (fun k h=>idx_end s k h)
 have HIM:=Lib.hid (fun k h h1=>idx_miss s k h h1)
 have HIH:=Lib.hid (fun k h h1 h2=>idx_hit s k h h1 h2)
 have HIB:=Lib.hid (idx_bd s)
 have hI0:Hid (Lib.index s.data.toList [58,58]=if Lib.index (s.data.toList.drop 0) [58,58]=-1 then-1 else Lib.index (s.data.toList.drop 0) [58,58]+(0:Nat)):=Lib.hid (by rw[List.drop_zero];split<;>simp_all)
 have HS:Hid (sixL s.data.toList=if Lib.index s.data.toList [58,58]=-1 then (groupsL s.data.toList).bind fun l=>if l.length=8 then some l else none
  else (groupsL (s.data.toList.take (Lib.index s.data.toList [58,58]).toNat)).bind fun l=>(groupsL (s.data.toList.drop ((Lib.index s.data.toList [58,58]).toNat+2))).bind fun m=>
   if l.length+m.length≤7 then some (l++List.replicate (8-l.length-m.length) 0++m) else none):=Lib.hid rfl
 have HRB:=Lib.hid (fun(L:List Nat) (h:sixL s.data.toList=some L)=>sixL_bd h)
 generalize hI:Lib.index s.data.toList [58,58]=I at*
 clear hI
 go_enter Tryz.func122,Tryz.ntmps122
 go_wp2_with fail
 generalize w.alloc (.cells #[.bool false,.int .u8 ((fun _=>(0:Int)) 0),.int .u8 ((fun _=>(0:Int)) 1),.int .u8 ((fun _=>(0:Int)) 2),.int .u8 ((fun _=>(0:Int)) 3),.int .u8 ((fun _=>(0:Int)) 4),.int .u8 ((fun _=>(0:Int)) 5),.int .u8 ((fun _=>(0:Int)) 6),.int .u8 ((fun _=>(0:Int)) 7),.int .u8 ((fun _=>(0:Int)) 8),.int .u8 ((fun _=>(0:Int)) 9),.int .u8 ((fun _=>(0:Int)) 10),.int .u8 ((fun _=>(0:Int)) 11),.int .u8 ((fun _=>(0:Int)) 12),.int .u8 ((fun _=>(0:Int)) 13),.int .u8 ((fun _=>(0:Int)) 14),.int .u8 ((fun _=>(0:Int)) 15)] 36)=w1 at*
 go_loopw [4,5] (fun u4 u5 wr=>∃(i:Nat) (at':Int),i≤1001∧u5=.int .i64 i∧u4=.int .i64 at'∧wr=w1∧((at'=-1∧Hid (I=if Lib.index (s.data.toList.drop i) [58,58]=-1 then-1 else Lib.index (s.data.toList.drop i) [58,58]+(i:Nat)))∨(0≤at'∧at'≤1001∧I=at'))) (fun _ u5 _=>(1001:Int)-intOf u5 |>.toNat)
 case atStart=>exact⟨0,-1,by omega,rfl,rfl,rfl,.inl ⟨rfl,hI0⟩⟩
 case round=>
  obtain⟨i,at',hi,rfl,rfl,rfl,hc⟩:=hrel
  rcases hc with ⟨rfl,HI⟩|⟨h0,h1,rfl⟩
  ·by_cases hlt:i+1<s.size
   ·have hlt2:(i:Int)+1<s.size:=by omega
    by_cases hm:s[i]=58∧s[i+1]=58
    ·have hsl:=slice_two s i hlt
     rw[hm.1,hm.2] at hsl
     have HI2:Hid (I=i):=Lib.hid (by rw[HI.out,HIH.out i hlt hm.1 hm.2];simp)
     clear hm
     go_wp2_with fail
     go_roundw
     case rel=>exact⟨i+1,i,by omega,by go_num,rfl,by trivial,.inr ⟨by omega,by omega,HI2.out⟩⟩
     case measure=>simp[intOf];omega
    ·have hsl:=slice_two s i hlt
     have HMM:=Lib.hid hm
     have HI2:=Lib.hid (HIM.out i hlt hm)
     clear hm
     obtain⟨x,hx⟩:∃x,s[i]=x:=⟨_,rfl⟩
     obtain⟨y,hy⟩:∃y,s[i+1]=y:=⟨_,rfl⟩
     rw[hx,hy] at hsl
     have hne:¬(x=58∧y=58):=fun h=>HMM.out (by rw[hx,hy];exact h)
     have HI3:Hid (I=if Lib.index (s.data.toList.drop (i+1)) [58,58]=-1 then-1 else Lib.index (s.data.toList.drop (i+1)) [58,58]+((i+1:Nat):Int)):=Lib.hid (by
      rw[HI.out,HI2.out]
      have:=Lib.index_ge (s.data.toList.drop (i+1)) [58,58]
      by_cases e:Lib.index (s.data.toList.drop (i+1)) [58,58]=-1
      ·rw[if_pos e,if_pos e,if_pos rfl]
      ·rw[if_neg e,if_neg e,if_neg (by omega)];omega)
     clear hx hy HMM HI2 HI
     by_cases h58:x=58
     all_goals
      first
       |(have hy5:(y==58)=false:=by simpa using fun h=>hne ⟨h58,h⟩
         have hx5:(x==58)=true:=by simpa using h58)
       |(have hx5:(x==58)=false:=by simpa using h58)
      clear h58 hne
      go_wp2_with fail
      go_roundw
      case rel=>exact⟨i+1,-1,by omega,by go_num,rfl,by trivial,.inl ⟨rfl,HI3⟩⟩
      case measure=>simp[intOf];omega
   ·have hlt2:¬((i:Int)+1<s.size):=by omega
    have HI2:Hid (I=-1):=Lib.hid (by rw[HI.out,HIE.out i (by omega)];rfl)
    clear HI HIE HIM HIH HIB hI0
    go_wp2_with fail
    refine Calls.mono (groups_two s wr hs) ?_
    rintro e wz ⟨oa,cap,L,ok,rfl,hO,hb3,hl,hc⟩
    have hbase:=HX.out.lt
    have HX2:=Lib.hid (HX.out.below hb3)
    have HW2:=Lib.hid (Below.via HW.out hb3)
    clear HX HW
    have HX:=Lib.hid HX2.out
    have HW:=Lib.hid HW2.out
    clear HX2 HW2
    have hltz:=HX.out.lt
    have HO:=Lib.hid hO
    have HC:=Lib.hid hc
    clear hO hb3 hc hi
    have HS2:=HS.out
    rw[HI2.out,if_pos rfl] at HS2
    have HS3:=Lib.hid HS2
    clear HS2 HS HI2
    generalize wr.heap.size=base at*
    obtain⟨n,hn⟩:∃n,L.length=n:=⟨_,rfl⟩
    rw[hn] at HO hl⊢
    have HN:=Lib.hid hn
    clear hn
    cases ok
    ·have HF:Hid (sixL s.data.toList=none):=Lib.hid (by
      rcases HC.out with ⟨h,-⟩|⟨-,h⟩
      ·cases h
      ·rw[HS3.out,h];rfl)
     have hrr:=HX.out.row
     have HH:=Lib.hid HX.out.heap
     go_wp2_with fail
     refine bodyPost_ret (v:=.tuple #[adV false fun _=>0,.bool false]) ?_ ?_ ?_
     ·exact results_ad2 _ _ Tryz.underlying36 info_rad rfl _ _ w.heap.size (.bool false) rfl rfl (partOf_set HH.out)
     ·rfl
     ·exact⟨below_setRow HW.out (Nat.le_refl _) _,.inr ⟨HF.out,rfl⟩⟩
    ·have HG:Hid (groupsL s.data.toList=some L):=Lib.hid (by rcases HC.out with ⟨-,h⟩|⟨h,-⟩;exact h;cases h)
     by_cases h8:n=8
     ·subst h8
      have HF:Hid (sixL s.data.toList=some L):=Lib.hid (by rw[HS3.out,HG.out];show(if L.length=8 then some L else none)=_;rw[if_pos HN.out])
      clear HS3 HC HG
      have HLB:=Lib.hid (HRB.out _ HF.out)
      have HLG:Hid (∀k (h:k<L.length),L[k]<65536):=Lib.hid fun k h=>HLB.out.2 _ (List.getElem_mem h)
      have HL8:=Lib.hid HLB.out.1
      have HLT:=Lib.hid (fun a (ha:oa=some a)=>HO.out.lt ha)
      clear HLB
      go_wp2_with fail
      have HX0:=Lib.hid (HX.out.alloc (.cells #[.bool true,.int .u8 0,.int .u8 0,.int .u8 0,.int .u8 0,.int .u8 0,.int .u8 0,.int .u8 0,.int .u8 0,.int .u8 0,.int .u8 0,.int .u8 0,.int .u8 0,.int .u8 0,.int .u8 0,.int .u8 0,.int .u8 0] 36))
      have HY0:=Lib.hid (AdBox.made0 wz 36 true)
      have HO0:=Lib.hid (HO.out.alloc (.cells #[.bool true,.int .u8 0,.int .u8 0,.int .u8 0,.int .u8 0,.int .u8 0,.int .u8 0,.int .u8 0,.int .u8 0,.int .u8 0,.int .u8 0,.int .u8 0,.int .u8 0,.int .u8 0,.int .u8 0,.int .u8 0,.int .u8 0] 36))
      have HW0:=Lib.hid (Below.all HW.out (.cells #[.bool true,.int .u8 0,.int .u8 0,.int .u8 0,.int .u8 0,.int .u8 0,.int .u8 0,.int .u8 0,.int .u8 0,.int .u8 0,.int .u8 0,.int .u8 0,.int .u8 0,.int .u8 0,.int .u8 0,.int .u8 0,.int .u8 0] 36))
      clear HX HO HW
      generalize wz.alloc (.cells #[.bool true,.int .u8 0,.int .u8 0,.int .u8 0,.int .u8 0,.int .u8 0,.int .u8 0,.int .u8 0,.int .u8 0,.int .u8 0,.int .u8 0,.int .u8 0,.int .u8 0,.int .u8 0,.int .u8 0,.int .u8 0,.int .u8 0] 36)=wy at*
      generalize wz.heap.size=b3 at*
      go_loopw [13] (fun u13 wr=>∃k:Nat,k≤8∧u13=.int .i64 k∧Hid (AdBox wr w.heap.size 36 false fun _=>0)∧Hid (AdBox wr b3 36 true (fun j=>if j<2*k then sixB L j else 0))∧Hid (Owns wr base 1 oa 8 cap (L.map fun(m:Nat)=>Value.int .i64 (m:Int)))∧Hid (Below w.heap.size w wr)) (fun u13 _=>(8:Int)-intOf u13 |>.toNat)
      case atStart=>exact⟨0,by omega,rfl,HX0,Lib.hid (HY0.out.congr fun i _=>by simp),HO0,HW0⟩
      case round=>
       obtain⟨k,hk,rfl,HX,HY,HO,HW⟩:=hrel
       by_cases hlt:k<8
       ·have hkL:k<L.length:=by rw[HL8.out];exact hlt
        obtain⟨g,off,hop,hbg,hg,hc,ht⟩:=HO.out.here (by omega)
        have hgb:=(HLT.out _ hop).2
        subst hop
        simp only at hgb
        have hcl:=hc k (.int .i64 (L[k]:Nat)) (by simp[hkL])
        have hnb:=HLG.out k hkL
        have HSX:Hid (((L[k]/256:Nat):Int)=sixB L (2*k)∧((L[k]%256:Nat):Int)=sixB L (2*k+1)):=Lib.hid (by
         unfold sixB
         rw[if_pos (by omega),if_neg (by omega),show 2*k/2=k by omega,show(2*k+1)/2=k by omega,List.getD_eq_getElem?_getD,List.getElem?_eq_getElem hkL]
         exact⟨rfl,rfl⟩)
        generalize L[k]=n at*
        have hq1:Int.tdiv (n:Int) 256=((n/256:Nat):Int):=by rw[Int.tdiv_eq_ediv_of_nonneg (by omega)];omega
        have hq2:Int.tmod (n:Int) 256=((n%256:Nat):Int):=by rw[Int.tmod_eq_emod_of_nonneg (by omega)];omega
        have hq3:n/256<256:=by omega
        have hq4:n%256<256:=by omega
        generalize n/256=q at*
        generalize n%256=r at*
        have hcx:=HY.out.cell (2*k) (by omega)
        have hcy:=HY.out.cell (2*k+1) (by omega)
        have hfx:=HY.out.free (1+2*k)
        have hfy:=HY.out.free (1+(2*k+1))
        clear hc ht
        go_wp2_with fail
        go_roundw
        case rel=>
         refine⟨k+1,by omega,by go_num,Lib.hid ((HX.out.other _ _ (by simp only;omega)).other _ _ (by simp only;omega)),Lib.hid (ad_six HY.out hlt HSX.out.1 HSX.out.2),Lib.hid ((HO.out.other ?_ _).other ?_ _),Lib.hid ((HW.out.setCell (by simp only;omega) _).setCell (by simp only;omega) _)⟩
         ·intro a ha;cases ha;simp only;omega
         ·intro a ha;cases ha;simp only;omega
        case measure=>simp[intOf];omega
       ·obtain rfl:k=8:=by omega
        have HZ:=HY.out.congr (C:=sixB L) fun i hi=>by rw[if_pos (by omega)]
        have hpp:=HZ.part
        have hrr:=HX.out.row
        have HH:=Lib.hid HX.out.heap
        clear HZ
        go_wp2_with fail
        refine bodyPost_ret (v:=.tuple #[adV true (sixB L),.bool true]) ?_ ?_ ?_
        ·exact results_ad2 _ _ Tryz.underlying36 info_rad rfl _ _ w.heap.size (.bool true) rfl rfl (partOf_set HH.out)
        ·rfl
        ·exact⟨below_setRow HW.out (Nat.le_refl _) _,.inl ⟨L,HF.out,rfl⟩⟩
     ·have HF:Hid (sixL s.data.toList=none):=Lib.hid (by rw[HS3.out,HG.out];show(if L.length=8 then some L else none)=_;rw[if_neg (by rw[HN.out];exact h8)])
      have h8':¬((n:Int)=8):=by omega
      have hrr:=HX.out.row
      have HH:=Lib.hid HX.out.heap
      go_wp2_with fail
      refine bodyPost_ret (v:=.tuple #[adV false fun _=>0,.bool false]) ?_ ?_ ?_
      ·exact results_ad2 _ _ Tryz.underlying36 info_rad rfl _ _ w.heap.size (.bool false) rfl rfl (partOf_set HH.out)
      ·rfl
      ·exact⟨below_setRow HW.out (Nat.le_refl _) _,.inr ⟨HF.out,rfl⟩⟩
  ·obtain⟨a,rfl⟩:∃a:Nat,I=a:=⟨I.toNat,by omega⟩
   have hib:=HIB.out (by omega)
   have HS2:=HS.out
   rw[if_neg (by omega),Int.toNat_natCast] at HS2
   have HS3:=Lib.hid HS2
   have hsh:=slice_head s a (by omega)
   have hst:=slice_tail s (a+2) ((a:Int)+2) (by omega) (by omega)
   have hls:s.data.toList.length=s.size:=by rw[Array.length_toList,ByteArray.size_data]
   have hls1:(s.data.toList.take a).length≤1000:=by rw[List.length_take];omega
   have hls2:(s.data.toList.drop (a+2)).length≤1000:=by rw[List.length_drop];omega
   clear HS2 HS HIE HIM HIH HIB hI0 hls
   generalize sixL s.data.toList=R at*
   generalize s.data.toList.take a=H at*
   generalize s.data.toList.drop (a+2)=T at*
   have HG1:Hid (∀w,Calls Tryz.prog 175 #[.string ⟨H.toArray⟩] w (GroupsPost2 w (groupsL H) H.length)):=Lib.hid fun w=>groups_two ⟨H.toArray⟩ w (by simp[ByteArray.size];omega)
   have HG2:Hid (∀w,Calls Tryz.prog 175 #[.string ⟨T.toArray⟩] w (GroupsPost2 w (groupsL T) T.length)):=Lib.hid fun w=>groups_two ⟨T.toArray⟩ w (by simp[ByteArray.size];omega)
   by_cases hlt:i+1<s.size
   all_goals
    go_wp2_with fail
    refine Calls.mono (groups_two s wr hs) ?_
    rintro e w3 ⟨oa0,cap0,G0,ok0,rfl,-,hb3,hl0,-⟩
    have HX3:=Lib.hid (HX.out.below hb3)
    have HW3:=Lib.hid (Below.via HW.out hb3)
    clear hb3 HX HW hlt
    go_wp2_with fail
    refine Calls.mono (HG1.out w3) ?_
    rintro e w4 ⟨oaA,capA,GA,is,rfl,hO,hb,hlA,hcA⟩
    have hlW:=HX3.out.lt
    have HX4:=Lib.hid (HX3.out.below hb)
    have HW4:=Lib.hid (Below.via HW3.out hb)
    have HOA4:=Lib.hid (hO.mono (base':=w.heap.size+1) (by omega))
    have HLA:=Lib.hid (fun a ha=>(hO.lt (a:=a) ha).2)
    have HCA:=Lib.hid hcA
    clear hb hO HX3 HW3 hcA hlW hsh
    go_wp2_with fail
    refine Calls.mono (HG2.out w4) ?_
    rintro e w5 ⟨oaB,capB,GB,too,rfl,hO,hb,hlB,hcB⟩
    have hlW:=HX4.out.lt
    have HX:=Lib.hid (HX4.out.below hb)
    have HW:=Lib.hid (Below.via HW4.out hb)
    have HOA:=Lib.hid (HOA4.out.below hb)
    have HOB:=Lib.hid (hO.mono (base':=w.heap.size+1) (by omega))
    have HSP:Hid (∀a b,oaA=some a→oaB=some b→a.block≠b.block):=Lib.hid fun a b ha hb' e=>by
     have h1:=HLA.out a ha
     have h2:=(hO.lt hb').1
     omega
    have hlW5:=HX.out.lt
    have HCB:=Lib.hid hcB
    clear hb hO HX4 HW4 HOA4 hcB HLA hst
    obtain⟨nA,hnA⟩:∃n,GA.length=n:=⟨_,rfl⟩
    obtain⟨nB,hnB⟩:∃n,GB.length=n:=⟨_,rfl⟩
    have HNA:=Lib.hid hnA
    have HNB:=Lib.hid hnB
    rw[hnA] at HOA hlA⊢
    rw[hnB] at HOB hlB⊢
    clear hnA hnB
    cases is
    ·have HF:Hid (R=none):=Lib.hid (by
      rcases HCA.out with ⟨h,-⟩|⟨-,h⟩
      ·cases h
      ·rw[HS3.out,h];rfl)
     go_wp2_with fail
     go_loopw [6] (fun u6 wr=>u6=.slice oaA nA capA∧wr=w5) (fun _ _=>0)
     case atStart=>exact⟨rfl,rfl⟩
     case round=>
      obtain⟨rfl,rfl⟩:=hrel
      go_wp2_with (at_builtin;refine Stopped.of ?_)
      refine Stopped.mk ?_
      refine wpList_append_rows _ rfl _ _ 275 rfl 3 (.int .i64 0) 8 (w.heap.size+1) (w.heap.size+1) Tryz.underlying275 info_i64 rfl oaA nA capA _ rfl HOA.out oaB nB capB _ rfl HOB.out ?_ (by unfold maxLen;omega) (by omega) (by omega) ?_
      ·intro u hu
       obtain⟨i,-,rfl⟩:=List.mem_map.1 hu
       rfl
      intro oa' cap' w6 hO6 hg6 hd6
      have HX6:=Lib.hid (HX.out.keep (hg6.block _ (by omega) (fun e=>by
       obtain⟨a,ha,hab⟩:=Option.map_eq_some_iff.1 e.symm
       have:=(HOA.out.lt ha).1;omega)))
      have HW6:=Lib.hid (Below.grown HW.out hg6 (by omega) (fun k hk=>by
       obtain⟨a,ha,hab⟩:=Option.map_eq_some_iff.1 hk
       have:=(HOA.out.lt ha).1;omega))
      clear hO6 hg6 hd6 HX HW HOA HOB
      have HX:=Lib.hid HX6.out
      have HW:=Lib.hid HW6.out
      clear HX6 HW6
      have hrr:=HX.out.row
      have HH:=Lib.hid HX.out.heap
      go_wp2_with fail
      refine bodyPost_ret (v:=.tuple #[adV false fun _=>0,.bool false]) ?_ ?_ ?_
      ·exact results_ad2 _ _ Tryz.underlying36 info_rad rfl _ _ w.heap.size (.bool false) rfl rfl (partOf_set HH.out)
      ·rfl
      ·exact⟨below_setRow HW.out (Nat.le_refl _) _,.inr ⟨HF.out,rfl⟩⟩
    have HGA:Hid (groupsL H=some GA):=Lib.hid (by rcases HCA.out with ⟨-,h⟩|⟨h,-⟩;exact h;cases h)
    cases too
    ·have HF:Hid (R=none):=Lib.hid (by
      rcases HCB.out with ⟨h,-⟩|⟨-,h⟩
      ·cases h
      ·rw[HS3.out,HGA.out,h];rfl)
     go_wp2_with fail
     go_loopw [6] (fun u6 wr=>u6=.slice oaA nA capA∧wr=w5) (fun _ _=>0)
     case atStart=>exact⟨rfl,rfl⟩
     case round=>
      obtain⟨rfl,rfl⟩:=hrel
      go_wp2_with (at_builtin;refine Stopped.of ?_)
      refine Stopped.mk ?_
      refine wpList_append_rows _ rfl _ _ 275 rfl 3 (.int .i64 0) 8 (w.heap.size+1) (w.heap.size+1) Tryz.underlying275 info_i64 rfl oaA nA capA _ rfl HOA.out oaB nB capB _ rfl HOB.out ?_ (by unfold maxLen;omega) (by omega) (by omega) ?_
      ·intro u hu
       obtain⟨i,-,rfl⟩:=List.mem_map.1 hu
       rfl
      intro oa' cap' w6 hO6 hg6 hd6
      have HX6:=Lib.hid (HX.out.keep (hg6.block _ (by omega) (fun e=>by
       obtain⟨a,ha,hab⟩:=Option.map_eq_some_iff.1 e.symm
       have:=(HOA.out.lt ha).1;omega)))
      have HW6:=Lib.hid (Below.grown HW.out hg6 (by omega) (fun k hk=>by
       obtain⟨a,ha,hab⟩:=Option.map_eq_some_iff.1 hk
       have:=(HOA.out.lt ha).1;omega))
      clear hO6 hg6 hd6 HX HW HOA HOB
      have HX:=Lib.hid HX6.out
      have HW:=Lib.hid HW6.out
      clear HX6 HW6
      have hrr:=HX.out.row
      have HH:=Lib.hid HX.out.heap
      go_wp2_with fail
      refine bodyPost_ret (v:=.tuple #[adV false fun _=>0,.bool false]) ?_ ?_ ?_
      ·exact results_ad2 _ _ Tryz.underlying36 info_rad rfl _ _ w.heap.size (.bool false) rfl rfl (partOf_set HH.out)
      ·rfl
      ·exact⟨below_setRow HW.out (Nat.le_refl _) _,.inr ⟨HF.out,rfl⟩⟩
    have HGB:Hid (groupsL T=some GB):=Lib.hid (by rcases HCB.out with ⟨-,h⟩|⟨h,-⟩;exact h;cases h)
    have HS4:Hid (R=if nA+nB≤7 then some (GA++List.replicate (8-nA-nB) 0++GB) else none):=Lib.hid (by rw[HS3.out,HGA.out,HGB.out,←HNA.out,←HNB.out];rfl)
    clear HS3 HGA HGB HCA HCB HNA HNB
    by_cases h7:nA+nB≤7
    ·have HF0:Hid (R=some (GA++List.replicate (8-nA-nB) 0++GB)):=Lib.hid (by rw[HS4.out,if_pos h7])
     have h7':(nA:Int)+nB≤7:=by omega
     have HF:=Lib.hid HF0.out
     clear HS4 HF0
     go_wp2_with fail
     go_loopg [6] (8-nA-nB) (fun g u6 wr=>∃(m:Nat) (oa:Option Addr) (cap:Nat),m+nB+g=8∧u6=.slice oa m cap∧Hid (∃j,m=nA+j∧Owns wr (w.heap.size+1) 1 oa m cap ((GA++List.replicate j 0).map fun(m:Nat)=>Value.int .i64 (m:Int)))∧Hid (Owns wr (w.heap.size+1) 1 oaB nB capB (GB.map fun(m:Nat)=>Value.int .i64 (m:Int)))∧
      Hid (∀a b,oa=some a→oaB=some b→a.block≠b.block)∧Hid (AdBox wr w.heap.size 36 false fun _=>0)∧Hid (Below w.heap.size w wr))
     case atStart=>exact⟨nA,oaA,capA,by omega,rfl,Lib.hid ⟨0,rfl,by simpa using HOA.out⟩,HOB,HSP,HX,HW⟩
     case round=>
      clear HOA HOB HSP HX HW
      obtain⟨m,oa,cap,hmg,rfl,HOA,HOB,HSP,HX,HW⟩:=hrel
      obtain⟨j,hmj,hOA⟩:=HOA.out
      have HMJ:=Lib.hid hmj
      have hle:=hOA.le
      have hlW:=HX.out.lt
      by_cases hlt8:m+nB<8
      ·have hlt9:(m:Int)+nB<8:=by omega
       have HOA1:=Lib.hid hOA
       clear hOA hmj
       go_wp2_with (at_builtin;refine Stopped.of ?_)
       refine Stopped.mk ?_
       refine wpList_append_owns _ rfl _ _ 275 rfl 3 (.int .i64 0) 1 8 (w.heap.size+1) Tryz.underlying275 info_i64 rfl (by decide) oa m cap _ rfl (HOA1.out.alloc _) ⟨wr.heap.size,0,none⟩ 1 1 [.int .i64 0] rfl rfl ?_ ?_ (by decide) ?_ ?_ ?_ ?_
       ·exact news_new _ _ _
       ·simp[Value.oneCell']
       ·unfold maxLen;omega
       ·omega
       ·simp only[World.size_alloc];omega
       intro oa' cap' w6 ho' hg hd
       have HLT:=Lib.hid (fun a (ha:oa=some a)=>HOA1.out.lt ha)
       have HX6:=Lib.hid ((HX.out.alloc (.cells #[.int .i64 0] 3)).keep (hg.block _ (by simp only[World.size_alloc];omega) (fun e=>by
        obtain⟨a,ha,hab⟩:=Option.map_eq_some_iff.1 e.symm
        have:=(HLT.out a ha).1;omega)))
       have HW6:Hid (Below w.heap.size w w6):=Lib.hid (Below.appended (Below.all HW.out _) (HOA1.out.alloc _) (by omega) hg (by simp only[World.size_alloc];omega))
       have HOB6:=Lib.hid ((HOB.out.alloc (.cells #[.int .i64 0] 3)).grown hg (fun b hb e=>by
        obtain⟨a,ha,hab⟩:=Option.map_eq_some_iff.1 e.symm
        exact HSP.out a b ha hb hab))
       have HSP6:Hid (∀a b,oa'=some a→oaB=some b→a.block≠b.block):=Lib.hid fun a b ha hb=>by
        rcases hd a ha with h|h
        ·exact HSP.out a b h hb
        ·have:=(HOB.out.lt hb).2
         simp only[World.size_alloc] at h
         omega
       have HOA6:Hid (∃j,m+1=nA+j∧Owns w6 (w.heap.size+1) 1 oa' (m+1) cap' ((GA++List.replicate j 0).map fun(m:Nat)=>Value.int .i64 (m:Int))):=Lib.hid ⟨j+1,by have:=HMJ.out;omega,by
        rw[show List.replicate (j+1) 0=List.replicate j 0++[0] from List.replicate_succ',←List.append_assoc,List.map_append]
        exact ho'⟩
       clear HLT hg hd ho' HOA HOA1 HOB HSP HX HW
       go_wp2_with fail
       go_roundg (8-(m+1)-nB)
       case measure=>omega
       case rel=>exact⟨m+1,oa',cap',by omega,rfl,HOA6,HOB6,HSP6,HX6,HW6⟩
      ·have hlt9:¬((m:Int)+nB<8):=by omega
       have h8:m+nB=8:=by omega
       obtain rfl:j=8-nA-nB:=by omega
       have HOA1:=Lib.hid hOA
       clear hOA hmj
       go_wp2_with (at_builtin;refine Stopped.of ?_)
       refine Stopped.mk ?_
       refine wpList_append_rows _ rfl _ _ 275 rfl 3 (.int .i64 0) 8 (w.heap.size+1) (w.heap.size+1) Tryz.underlying275 info_i64 rfl oa m cap _ rfl HOA1.out oaB nB capB _ rfl HOB.out ?_ (by unfold maxLen;omega) (by omega) (by omega) ?_
       ·intro u hu
        obtain⟨i,-,rfl⟩:=List.mem_map.1 hu
        rfl
       intro oa' cap' wz hO6 hg6 hd6
       have HX6:=Lib.hid (HX.out.keep (hg6.block _ (by omega) (fun e=>by
        obtain⟨a,ha,hab⟩:=Option.map_eq_some_iff.1 e.symm
        have:=(HOA1.out.lt ha).1;omega)))
       have HW6:=Lib.hid (Below.grown HW.out hg6 (by omega) (fun k hk=>by
        obtain⟨a,ha,hab⟩:=Option.map_eq_some_iff.1 hk
        have:=(HOA1.out.lt ha).1;omega))
       rw[h8] at hO6⊢
       rw[←List.map_append] at hO6
       have HO:=Lib.hid hO6
       clear hO6 hg6 hd6 HX HW HOA HOA1 HOB HSP HMJ
       have HX:=Lib.hid HX6.out
       have HW:=Lib.hid HW6.out
       have hltz:=HX.out.lt
       have hbase:w.heap.size<w.heap.size+1:=by omega
       clear HX6 HW6 hle hlt8 hlt9 h8
       generalize GA++List.replicate (8-nA-nB) 0++GB=L at*
       generalize w.heap.size+1=base at*
       have HLB:=Lib.hid (HRB.out _ HF.out)
       have HLG:Hid (∀k (h:k<L.length),L[k]<65536):=Lib.hid fun k h=>HLB.out.2 _ (List.getElem_mem h)
       have HL8:=Lib.hid HLB.out.1
       have HLT:=Lib.hid (fun a (ha:oa'=some a)=>HO.out.lt ha)
       clear HLB
       go_wp2_with fail
       have HX0:=Lib.hid (HX.out.alloc (.cells #[.bool true,.int .u8 0,.int .u8 0,.int .u8 0,.int .u8 0,.int .u8 0,.int .u8 0,.int .u8 0,.int .u8 0,.int .u8 0,.int .u8 0,.int .u8 0,.int .u8 0,.int .u8 0,.int .u8 0,.int .u8 0,.int .u8 0] 36))
       have HY0:=Lib.hid (AdBox.made0 wz 36 true)
       have HO0:=Lib.hid (HO.out.alloc (.cells #[.bool true,.int .u8 0,.int .u8 0,.int .u8 0,.int .u8 0,.int .u8 0,.int .u8 0,.int .u8 0,.int .u8 0,.int .u8 0,.int .u8 0,.int .u8 0,.int .u8 0,.int .u8 0,.int .u8 0,.int .u8 0,.int .u8 0] 36))
       have HW0:=Lib.hid (Below.all HW.out (.cells #[.bool true,.int .u8 0,.int .u8 0,.int .u8 0,.int .u8 0,.int .u8 0,.int .u8 0,.int .u8 0,.int .u8 0,.int .u8 0,.int .u8 0,.int .u8 0,.int .u8 0,.int .u8 0,.int .u8 0,.int .u8 0,.int .u8 0] 36))
       clear HX HO HW
       generalize wz.alloc (.cells #[.bool true,.int .u8 0,.int .u8 0,.int .u8 0,.int .u8 0,.int .u8 0,.int .u8 0,.int .u8 0,.int .u8 0,.int .u8 0,.int .u8 0,.int .u8 0,.int .u8 0,.int .u8 0,.int .u8 0,.int .u8 0,.int .u8 0] 36)=wy at*
       generalize wz.heap.size=b3 at*
       go_loopw [13] (fun u13 wr=>∃k:Nat,k≤8∧u13=.int .i64 k∧Hid (AdBox wr w.heap.size 36 false fun _=>0)∧Hid (AdBox wr b3 36 true (fun j=>if j<2*k then sixB L j else 0))∧Hid (Owns wr base 1 oa' 8 cap' (L.map fun(m:Nat)=>Value.int .i64 (m:Int)))∧Hid (Below w.heap.size w wr)) (fun u13 _=>(8:Int)-intOf u13 |>.toNat)
       case atStart=>exact⟨0,by omega,rfl,HX0,Lib.hid (HY0.out.congr fun i _=>by simp),HO0,HW0⟩
       case round=>
        obtain⟨k,hk,rfl,HX,HY,HO,HW⟩:=hrel
        by_cases hlt:k<8
        ·have hkL:k<L.length:=by rw[HL8.out];exact hlt
         obtain⟨g,off,hop,hbg,hg,hc,ht⟩:=HO.out.here (by omega)
         have hgb:=(HLT.out _ hop).2
         subst hop
         simp only at hgb
         have hcl:=hc k (.int .i64 (L[k]:Nat)) (by simp[hkL])
         have hnb:=HLG.out k hkL
         have HSX:Hid (((L[k]/256:Nat):Int)=sixB L (2*k)∧((L[k]%256:Nat):Int)=sixB L (2*k+1)):=Lib.hid (by
          unfold sixB
          rw[if_pos (by omega),if_neg (by omega),show 2*k/2=k by omega,show(2*k+1)/2=k by omega,List.getD_eq_getElem?_getD,List.getElem?_eq_getElem hkL]
          exact⟨rfl,rfl⟩)
         generalize L[k]=n at*
         have hq1:Int.tdiv (n:Int) 256=((n/256:Nat):Int):=by rw[Int.tdiv_eq_ediv_of_nonneg (by omega)];omega
         have hq2:Int.tmod (n:Int) 256=((n%256:Nat):Int):=by rw[Int.tmod_eq_emod_of_nonneg (by omega)];omega
         have hq3:n/256<256:=by omega
         have hq4:n%256<256:=by omega
         generalize n/256=q at*
         generalize n%256=r at*
         have hcx:=HY.out.cell (2*k) (by omega)
         have hcy:=HY.out.cell (2*k+1) (by omega)
         have hfx:=HY.out.free (1+2*k)
         have hfy:=HY.out.free (1+(2*k+1))
         clear hc ht
         go_wp2_with fail
         go_roundw
         case rel=>
          refine⟨k+1,by omega,by go_num,Lib.hid ((HX.out.other _ _ (by simp only;omega)).other _ _ (by simp only;omega)),Lib.hid (ad_six HY.out hlt HSX.out.1 HSX.out.2),Lib.hid ((HO.out.other ?_ _).other ?_ _),Lib.hid ((HW.out.setCell (by simp only;omega) _).setCell (by simp only;omega) _)⟩
          ·intro a ha;cases ha;simp only;omega
          ·intro a ha;cases ha;simp only;omega
         case measure=>simp[intOf];omega
        ·obtain rfl:k=8:=by omega
         have HZ:=HY.out.congr (C:=sixB L) fun i hi=>by rw[if_pos (by omega)]
         have hpp:=HZ.part
         have hrr:=HX.out.row
         have HH:=Lib.hid HX.out.heap
         clear HZ
         go_wp2_with fail
         refine bodyPost_ret (v:=.tuple #[adV true (sixB L),.bool true]) ?_ ?_ ?_
         ·exact results_ad2 _ _ Tryz.underlying36 info_rad rfl _ _ w.heap.size (.bool true) rfl rfl (partOf_set HH.out)
         ·rfl
         ·exact⟨below_setRow HW.out (Nat.le_refl _) _,.inl ⟨L,HF.out,rfl⟩⟩
    ·have HF:Hid (R=none):=Lib.hid (by rw[HS4.out,if_neg h7])
     have h7':¬((nA:Int)+nB≤7):=by omega
     clear HS4
     go_wp2_with fail
     go_loopw [6] (fun u6 wr=>u6=.slice oaA nA capA∧wr=w5) (fun _ _=>0)
     case atStart=>exact⟨rfl,rfl⟩
     case round=>
      obtain⟨rfl,rfl⟩:=hrel
      go_wp2_with (at_builtin;refine Stopped.of ?_)
      refine Stopped.mk ?_
      refine wpList_append_rows _ rfl _ _ 275 rfl 3 (.int .i64 0) 8 (w.heap.size+1) (w.heap.size+1) Tryz.underlying275 info_i64 rfl oaA nA capA _ rfl HOA.out oaB nB capB _ rfl HOB.out ?_ (by unfold maxLen;omega) (by omega) (by omega) ?_
      ·intro u hu
       obtain⟨i,-,rfl⟩:=List.mem_map.1 hu
       rfl
      intro oa' cap' w6 hO6 hg6 hd6
      have HX6:=Lib.hid (HX.out.keep (hg6.block _ (by omega) (fun e=>by
       obtain⟨a,ha,hab⟩:=Option.map_eq_some_iff.1 e.symm
       have:=(HOA.out.lt ha).1;omega)))
      have HW6:=Lib.hid (Below.grown HW.out hg6 (by omega) (fun k hk=>by
       obtain⟨a,ha,hab⟩:=Option.map_eq_some_iff.1 hk
       have:=(HOA.out.lt ha).1;omega))
      clear hO6 hg6 hd6 HX HW HOA HOB
      have HX:=Lib.hid HX6.out
      have HW:=Lib.hid HW6.out
      clear HX6 HW6
      have hrr:=HX.out.row
      have HH:=Lib.hid HX.out.heap
      go_wp2_with fail
      refine bodyPost_ret (v:=.tuple #[adV false fun _=>0,.bool false]) ?_ ?_ ?_
      ·exact results_ad2 _ _ Tryz.underlying36 info_rad rfl _ _ w.heap.size (.bool false) rfl rfl (partOf_set HH.out)
      ·rfl
      ·exact⟨below_setRow HW.out (Nat.le_refl _) _,.inr ⟨HF.out,rfl⟩⟩
end
end Go.Proofs.YtkgjbipfhhjlpaaGreatDoor
