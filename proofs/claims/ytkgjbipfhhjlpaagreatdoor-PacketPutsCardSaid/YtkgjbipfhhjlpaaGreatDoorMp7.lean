import Derived.Test.YtkgjbipfhhjlpaaGreatDoorMp6
import Derived.Test.YtkgjbipfhhjlpaaGreatDoorMp4
set_option linter.unusedVariables false
set_option linter.unusedSimpArgs false
set_option maxRecDepth 100000
set_option maxHeartbeats 32000000
namespace Go.Proofs.YtkgjbipfhhjlpaaGreatDoor
section
open Go.RowKit
def parseOf (F S:Option (List Nat)):Option (Bool×(Nat→Int)):=match F with
 |some l=>some (false,fourB l)
 |none=>match S with
  |some l=>some (true,sixB l)
  |none=>none
theorem parseL_of (L:List UInt8):parseL L=parseOf (fourL L) (sixL L):=rfl
theorem parseOf_none (S:Option (List Nat)):(∀l,S=some l→parseOf none S=some (true,sixB l))∧(S=none→parseOf none S=none):=⟨fun l h=>by rw[h];rfl,fun h=>by rw[h];rfl⟩
theorem part_up {w:World}{b:Nat}{t:TypeId}{s s':Bool}{B B':Nat→Int}(h:AdBox w b t s B)(cs:Array Value)(o:Obj)(hc:cs=#[.bool s',.int .u8 (B' 0),.int .u8 (B' 1),.int .u8 (B' 2),.int .u8 (B' 3),.int .u8 (B' 4),.int .u8 (B' 5),.int .u8 (B' 6),.int .u8 (B' 7),.int .u8 (B' 8),.int .u8 (B' 9),.int .u8 (B' 10),.int .u8 (B' 11),.int .u8 (B' 12),.int .u8 (B' 13),.int .u8 (B' 14),.int .u8 (B' 15)]:=by rfl):partOf ((w.setRow b cs).alloc o) b 0 17=#[.bool s',.int .u8 (B' 0),.int .u8 (B' 1),.int .u8 (B' 2),.int .u8 (B' 3),.int .u8 (B' 4),.int .u8 (B' 5),.int .u8 (B' 6),.int .u8 (B' 7),.int .u8 (B' 8),.int .u8 (B' 9),.int .u8 (B' 10),.int .u8 (B' 11),.int .u8 (B' 12),.int .u8 (B' 13),.int .u8 (B' 14),.int .u8 (B' 15)]:=by
 rw[partOf_old _ _ _ _ _ (by have:=h.lt;simpa using this)]
 subst hc
 exact partOf_set h.heap
theorem parse_any (s:ByteArray)(w:World)(hs:s.size≤1000)(henv:Env w):Calls Tryz.prog 59 #[.string s] w (RetAt w (parseV (parseL s.data.toList))):=by
 have HE:=Lib.hid henv
 have H4:=Lib.hid (fun w h=>four_any s w hs h)
 have H6:=Lib.hid (fun w h=>six_any s w hs h)
 rw[parseL_of]
 clear henv hs
 generalize s.data.toList=L at*
 generalize fourL L=F at*
 generalize sixL L=S at*
 go_enter Tryz.func59,Tryz.ntmps59
 go_wp2_with fail
 refine Calls.mono (H4.out _ (HE.out.below (Below.all (Below.refl _ _) _))) ?_
 rintro e w2 ⟨B,ok,rfl,hb2,hc⟩
 have HX:=Lib.hid ((AdBox.made0 w 27 false).below hb2)
 have HW:=Lib.hid (Below.via (Below.all (Below.refl w.heap.size w) _) hb2)
 have hlt:=HX.out.lt
 have HC:=Lib.hid hc
 clear hb2 hc
 cases ok
 ·have hF:F=none:=by rcases HC.out with ⟨h,-⟩|⟨-,h⟩;cases h;exact h
  subst hF
  have HP2:=Lib.hid (parseOf_none S)
  generalize parseOf none S=R at*
  unfold adV
  have HX2:=Lib.hid (HX.out.alloc (.cells #[.bool false,.int .u8 (B 0),.int .u8 (B 1),.int .u8 (B 2),.int .u8 (B 3),.int .u8 (B 4),.int .u8 (B 5),.int .u8 (B 6),.int .u8 (B 7),.int .u8 (B 8),.int .u8 (B 9),.int .u8 (B 10),.int .u8 (B 11),.int .u8 (B 12),.int .u8 (B 13),.int .u8 (B 14),.int .u8 (B 15)] 27))
  have HW2:=Lib.hid (Below.all HW.out (.cells #[.bool false,.int .u8 (B 0),.int .u8 (B 1),.int .u8 (B 2),.int .u8 (B 3),.int .u8 (B 4),.int .u8 (B 5),.int .u8 (B 6),.int .u8 (B 7),.int .u8 (B 8),.int .u8 (B 9),.int .u8 (B 10),.int .u8 (B 11),.int .u8 (B 12),.int .u8 (B 13),.int .u8 (B 14),.int .u8 (B 15)] 27))
  clear HC HX HW hlt
  go_wp2_with fail
  generalize w2.alloc (.cells #[.bool false,.int .u8 (B 0),.int .u8 (B 1),.int .u8 (B 2),.int .u8 (B 3),.int .u8 (B 4),.int .u8 (B 5),.int .u8 (B 6),.int .u8 (B 7),.int .u8 (B 8),.int .u8 (B 9),.int .u8 (B 10),.int .u8 (B 11),.int .u8 (B 12),.int .u8 (B 13),.int .u8 (B 14),.int .u8 (B 15)] 27)=w3 at*
  refine Calls.mono (H6.out _ (HE.out.below HW2.out)) ?_
  rintro e w4 ⟨hb4,hc⟩
  have HX4:=Lib.hid (HX2.out.below hb4)
  have HW4:=Lib.hid (Below.via HW2.out hb4)
  have hlt:=HX4.out.lt
  clear hb4 HX2 HW2
  rcases hc with ⟨l,hl,rfl⟩|⟨hl,rfl⟩
  ·have HR:Hid (R=some (true,sixB l)):=Lib.hid (HP2.out.1 l hl)
   generalize sixB l=C at*
   have HX4:=Lib.hid HX4.out
   clear hl HP2
   unfold adV
   have hrr:=HX4.out.row
   go_wp2_with fail
   exact bodyPost_ret (v:=.tuple #[adV true C,.int .i64 0]) (results_ad2 _ _ Tryz.underlying27 info_ad rfl _ _ w.heap.size (.int .i64 0) rfl rfl (part_up (s':=true) (B':=C) HX4.out _ _ rfl)) rfl (.mk (by rw[HR.out];rfl) (Below.all (below_setRow HW4.out (Nat.le_refl _) _) _))
  ·have HR:Hid (R=none):=Lib.hid (HP2.out.2 hl)
   clear hl HP2
   unfold adV
   have hrr:=HX4.out.row
   go_wp2_with fail
   exact bodyPost_ret (v:=.tuple #[adV false fun _=>0,.int .i64 40]) (results_ad2 _ _ Tryz.underlying27 info_ad rfl _ _ w.heap.size (.int .i64 40) rfl rfl (part_up (s':=false) (B':=fun _=>0) HX4.out _ _ rfl)) rfl (.mk (by rw[HR.out];rfl) (Below.all (below_setRow HW4.out (Nat.le_refl _) _) _))
 ·obtain⟨l,rfl,hB⟩:∃l,F=some l∧∀i,i<16→B i=fourB l i:=by
   rcases HC.out with ⟨-,h⟩|⟨h,-⟩
   ·exact h
   ·cases h
  have HBE:=Lib.hid (ad_congr (six:=false) hB)
  clear HC hB H6
  unfold adV at*
  have hrr:=HX.out.row
  go_wp2_with fail
  refine bodyPost_ret (v:=.tuple #[adV false B,.int .i64 0]) (results_ad2 _ _ Tryz.underlying27 info_ad rfl _ _ w.heap.size (.int .i64 0) rfl rfl (part_up (s':=false) (B':=B) HX.out _ _ rfl)) rfl (.mk ?_ (Below.all (below_setRow HW.out (Nat.le_refl _) _) _))
  show Value.tuple #[adV false B,.int .i64 0]=.tuple #[adV false (fourB l),.int .i64 0]
  rw[show adV false B=adV false (fourB l) from HBE.out]
theorem join_joinL (c:UInt8):∀l:List (List UInt8),Lib.join l [c]=joinL c l
 |[]=>rfl
 |[p]=>by rw[Lib.join_one];rfl
 |p::q::l=>by
  rw[Lib.join_cons,joinL_cons2,←join_joinL c (q::l),Lib.join_cons]
  simp[Lib.joinTail]
theorem join_any (oa:Option Addr)(n cap base:Nat)(L:List (List UInt8))(c:UInt8)(w:World)(hO:Owns w base 1 oa n cap (L.map strV))(hlen:(joinL c L).length≤140737488355328)(hn:n≤140737488355328):
 Calls Tryz.prog 70 #[.slice oa n cap,.string ⟨#[c]⟩] w (RetAt w (.string ⟨(joinL c L).toArray⟩)):=by
 have hLn:L.length=n:=by have:=hO.len;simpa using this
 rcases Nat.eq_zero_or_pos n with h0|h0
 ·subst h0
  obtain rfl:=List.eq_nil_of_length_eq_zero hLn
  refine Calls.mono (Tryz.strings_Join_none oa cap _ w) ?_
  rintro e w' ⟨rfl,rfl⟩
  exact .mk rfl (Below.refl _ _)
 ·obtain⟨g,off,rfl,hb,hg,hc,ht⟩:=hO.here h0
  have e1:(L.map fun l:List UInt8=>(⟨l.toArray⟩:ByteArray)).length=n:=by rw[List.length_map,hLn]
  have e2:((L.map fun l:List UInt8=>(⟨l.toArray⟩:ByteArray)).map (·.data.toList))=L:=by simp[Function.comp_def]
  have h:=Tryz.strings_Join g off cap (L.map fun l:List UInt8=>(⟨l.toArray⟩:ByteArray)) ⟨#[c]⟩ w (fun j x hx=>by
   refine hc j _ ?_
   rw[List.getElem?_map] at hx⊢
   cases h:L[j]? with
   |none=>rw[h] at hx;cases hx
   |some l=>rw[h] at hx;cases hx;rfl) hg (by rw[e1];exact hn) (by rw[e1];exact hO.le) (by rw[e2];show(Lib.join L [c]).length≤_;rw[join_joinL];exact hlen)
  rw[e1,e2,show(⟨#[c]⟩:ByteArray).data.toList=[c] from rfl,join_joinL] at h
  refine Calls.mono h ?_
  rintro e w' ⟨rfl,hb'⟩
  exact .mk rfl hb'
theorem itoa_any (u:Nat)(hu:u<9223372036854775808)(w:World)(henv:Env w):Calls Tryz.prog 71 #[.int .i64 (u:Int)] w (RetAt w (.string ⟨(Lib.decDigits u).toArray⟩)):=by
 refine Calls.mono (Tryz.strconv_Itoa (u:Int) (by omega) (by omega) w henv.tab) ?_
 rintro e w' ⟨rfl,k,os,rfl⟩
 refine .mk ?_ (Lib.below_grow _ _ (Nat.le_refl _) _ _)
 unfold Lib.itoa
 rw[if_neg (by omega)]
 rfl
theorem decDigits_small (u:Nat)(h:u<256):(Lib.decDigits u).length≤257:=by
 rw[←digB_ten u u (Nat.le_refl _)]
 have:=digB_len 10 u u (Nat.le_refl _)
 omega
theorem joinL_len (c:UInt8)(m:Nat):∀L:List (List UInt8),(∀p∈L,p.length≤m)→(joinL c L).length≤L.length*(m+1)
 |[],_=>by simp[joinL]
 |[p],h=>by have:=h p (by simp);simp[joinL];omega
 |p::q::l,h=>by
  have h1:=h p (by simp)
  have h2:=joinL_len c m (q::l) (fun x hx=>h x (by simp at hx⊢;exact .inr hx))
  have h3:(p::q::l).length*(m+1)=(q::l).length*(m+1)+(m+1):=by rw[List.length_cons (a:=p),Nat.add_mul,Nat.one_mul]
  rw[joinL_cons2,List.length_append,List.length_cons]
  omega
theorem text_four (B:Nat→Int)(hB:U8 B)(hr:rightB false B=true)(w:World)(henv:Env w):
 Calls Tryz.prog 72 #[adV false B] w (RetAt w (.string ⟨(text4 fun i=>(B i).toNat).toArray⟩)):=by
 have HE:=Lib.hid henv
 have HU:=Lib.hid hB
 have HR:Hid (∀w,Calls Tryz.prog 68 #[adV false B] w (RetAt w (.bool true))):=Lib.hid fun w=>by rw[←hr];exact right_any false B w
 clear henv hB hr
 have HX:Hid (AdBox (w.alloc (.cells #[.bool false,.int .u8 (B 0),.int .u8 (B 1),.int .u8 (B 2),.int .u8 (B 3),.int .u8 (B 4),.int .u8 (B 5),.int .u8 (B 6),.int .u8 (B 7),.int .u8 (B 8),.int .u8 (B 9),.int .u8 (B 10),.int .u8 (B 11),.int .u8 (B 12),.int .u8 (B 13),.int .u8 (B 14),.int .u8 (B 15)] 27)) w.heap.size 27 false B):=Lib.hid (AdBox.made w _ false B)
 have HW:Hid (Below w.heap.size w (w.alloc (.cells #[.bool false,.int .u8 (B 0),.int .u8 (B 1),.int .u8 (B 2),.int .u8 (B 3),.int .u8 (B 4),.int .u8 (B 5),.int .u8 (B 6),.int .u8 (B 7),.int .u8 (B 8),.int .u8 (B 9),.int .u8 (B 10),.int .u8 (B 11),.int .u8 (B 12),.int .u8 (B 13),.int .u8 (B 14),.int .u8 (B 15)] 27))):=Lib.hid (Below.all (Below.refl w.heap.size w) _)
 unfold adV at*
 go_enter Tryz.func72,Tryz.ntmps72
 go_wp2_with fail
 generalize hw1:w.alloc (.cells #[.bool false,.int .u8 (B 0),.int .u8 (B 1),.int .u8 (B 2),.int .u8 (B 3),.int .u8 (B 4),.int .u8 (B 5),.int .u8 (B 6),.int .u8 (B 7),.int .u8 (B 8),.int .u8 (B 9),.int .u8 (B 10),.int .u8 (B 11),.int .u8 (B 12),.int .u8 (B 13),.int .u8 (B 14),.int .u8 (B 15)] 27)=w1 at*
 have hs1:w1.heap.size=w.heap.size+1:=by rw[←hw1];simp
 clear hw1
 refine Calls.mono (HR.out _) ?_
 rintro e w2 ⟨rfl,hb2⟩
 have HX2:=Lib.hid (HX.out.below hb2)
 have HW2:=Lib.hid (Below.via HW.out hb2)
 have hs2:w.heap.size+1≤w2.heap.size:=by have:=hb2.size;omega
 have hsx:=HX2.out.six
 clear hb2 HX HW hs1
 go_wp2_with fail
 clear hsx
 go_loopw [3,20] (fun u3 u20 wr=>∃(k:Nat) (oa:Option Addr) (cap:Nat),k≤4∧u20=.int .i64 k∧u3=.slice oa k cap∧Hid (Owns wr (w.heap.size+1) 1 oa k cap (((List.range k).map fun i=>Lib.decDigits (B i).toNat).map strV))∧Hid (AdBox wr w.heap.size 27 false B)∧Hid (Below w.heap.size w wr)∧w.heap.size+1≤wr.heap.size) (fun _ u20 _=>(4:Int)-intOf u20 |>.toNat)
 case atStart=>exact⟨0,none,0,by omega,rfl,rfl,Lib.hid (Owns.nil _ _ _),HX2,HW2,hs2⟩
 case round=>
  obtain⟨k,oa,cap,hk,rfl,rfl,HO,HX,HW,hsr⟩:=hrel
  by_cases hlt:k<4
  ·have hcx:=HX.out.cell k (by omega)
   have hbk:=HU.out k
   have HR1:Hid (List.range (k+1)=List.range k++[k]):=Lib.hid List.range_succ
   obtain⟨b,hbe⟩:=Int.eq_ofNat_of_zero_le hbk.1
   have HBE:=Lib.hid hbe
   rw[hbe] at hcx hbk
   clear hbe
   go_wp2_with fail
   refine Calls.mono (itoa_any b (by omega) wr (HE.out.below HW.out)) ?_
   rintro e w3 ⟨rfl,hb3⟩
   have HO3:=Lib.hid (HO.out.below hb3)
   have HX3:=Lib.hid (HX.out.below hb3)
   have HW3:=Lib.hid (Below.via HW.out hb3)
   have hs3:w.heap.size+1≤w3.heap.size:=by have:=hb3.size;omega
   have HLT:=Lib.hid (fun a (ha:oa=some a)=>(HO3.out.lt ha).1)
   clear hb3 hcx HO HX HW hsr
   go_wp2_with (at_builtin;refine Stopped.of ?_)
   refine Stopped.mk ?_
   refine wpList_append_owns _ rfl _ _ 76 rfl 9 (.string ⟨#[]⟩) 1 16 (w.heap.size+1) Tryz.underlying76 info_str rfl (by decide) oa k cap _ rfl (HO3.out.alloc _) ⟨w3.heap.size,0,none⟩ 1 1 [.string ⟨(Lib.decDigits b).toArray⟩] rfl rfl ?_ ?_ (by decide) ?_ ?_ ?_ ?_
   ·exact news_new _ _ _
   ·simp[Value.oneCell']
   ·unfold maxLen;omega
   ·omega
   ·simp only[World.size_alloc];omega
   intro oa' cap' w4 ho' hg hd
   have HX4:=Lib.hid ((HX3.out.alloc (.cells #[.string ⟨(Lib.decDigits b).toArray⟩] 9)).keep (hg.block _ (by simp;omega) (fun e=>by
    obtain⟨a,ha,hab⟩:=Option.map_eq_some_iff.1 e.symm
    have:=HLT.out a ha;omega)))
   have HW4:Hid (Below w.heap.size w w4):=Lib.hid (Below.appended (Below.all HW3.out _) (HO3.out.alloc _) (by omega) hg (by simp only[World.size_alloc];omega))
   have hs4:w.heap.size+1≤w4.heap.size:=by have:=hg.size;simp only[World.size_alloc] at this;omega
   have HO4:Hid (Owns w4 (w.heap.size+1) 1 oa' (k+1) cap' (((List.range (k+1)).map fun i=>Lib.decDigits (B i).toNat).map strV)):=Lib.hid (by
    rw[HR1.out,List.map_append,List.map_append]
    simp only[List.map_cons,List.map_nil]
    rw[HBE.out]
    exact ho')
   clear hg hd ho' HX3 HW3 HO3 hs3 HLT
   go_wp2_with fail
   go_roundw
   case rel=>exact⟨k+1,oa',cap',by omega,by go_num,rfl,HO4,HX4,HW4,hs4⟩
   case measure=>simp[intOf];omega
  ·obtain rfl:k=4:=by omega
   go_wp2_with fail
   refine Calls.mono (join_any oa 4 cap _ _ 46 wr HO.out ?_ (by omega)) ?_
   ·refine Nat.le_trans (joinL_len 46 257 _ fun p hp=>?_) (by simp)
    obtain⟨i,-,rfl⟩:=List.mem_map.1 hp
    exact decDigits_small _ (by have:=HU.out i;omega)
   rintro e w3 ⟨rfl,hb3⟩
   have HW3:=Lib.hid (Below.via HW.out hb3)
   go_wp2_with fail
   go_ret
   exact .mk rfl HW3.out
def grpN (B:Nat→Int)(k:Nat):Nat:=(grpI B k).toNat
theorem grpN_lt {B:Nat→Int}(hB:U8 B)(k:Nat):grpN B k<65536:=by have:=grpI_bd hB k;unfold grpN;omega
theorem grpN_eq {B:Nat→Int}(hB:U8 B)(k:Nat):grpI B k=(grpN B k:Int):=by have:=grpI_bd hB k;unfold grpN;omega
theorem zg_grp {B:Nat→Int}(hB:U8 B)(k:Nat)(h:k<8):zg (grpN B) k=(grpI B k==0):=by
 rw[zg_at _ _ h,grpN_eq hB k,Bool.eq_iff_iff]
 simp only[beq_iff_eq]
 omega
theorem noughts_bd (z:Nat→Bool)(hz:∃a b c d e f g h:Bool,z=zof [a,b,c,d,e,f,g,h]):(noughtsZ z).1≤(noughtsZ z).2∧(noughtsZ z).2≤8:=by
 obtain⟨a,b,c,d,e,f,g,h,rfl⟩:=hz
 exact noughts_bd8 a b c d e f g h
theorem text6_of (g:Nat→Nat):text6 g=if (noughtsZ (zg g)).1=(noughtsZ (zg g)).2 then joinL 58 ((List.range 8).map fun i=>digB 16 (g i))
 else joinL 58 (((List.range 8).map fun i=>digB 16 (g i)).take (noughtsZ (zg g)).1)++[58,58]++joinL 58 (((List.range 8).map fun i=>digB 16 (g i)).drop (noughtsZ (zg g)).2):=by
 unfold text6 progTok
 split
 ·exact flat_join _ _
 ·rw[flatT_append,flatT_append,flat_join,flat_join,List.map_take,List.map_drop];rfl
theorem text_six (B:Nat→Int)(hB:U8 B)(w:World)(henv:Env w):
 Calls Tryz.prog 72 #[adV true B] w (RetAt w (.string ⟨(text6 (grpN B)).toArray⟩)):=by
 have HE:=Lib.hid henv
 have HU:=Lib.hid hB
 have HR:Hid (∀w,Calls Tryz.prog 68 #[adV true B] w (RetAt w (.bool true))):=Lib.hid fun w=>right_any true B w
 have HG:=Lib.hid (fun k hk w=>group_any true B hB k hk w)
 have HN:=Lib.hid (fun w=>noughts_any true B hB (zg (grpN B)) (fun k hk=>zg_grp hB k hk) w)
 have HNB:=noughts_bd (zg (grpN B)) ⟨_,_,_,_,_,_,_,_,rfl⟩
 have HT:=Lib.hid (text6_of (grpN B))
 have HGL:=Lib.hid (fun k=>grpN_lt hB k)
 have HGE:=Lib.hid (fun k=>grpN_eq hB k)
 clear henv hB
 generalize text6 (grpN B)=T at*
 generalize noughtsZ (zg (grpN B))=ft at*
 obtain⟨f,t⟩:=ft
 simp only at HN HNB HT
 obtain⟨hft,ht8⟩:=HNB
 have HX:Hid (AdBox (w.alloc (.cells #[.bool true,.int .u8 (B 0),.int .u8 (B 1),.int .u8 (B 2),.int .u8 (B 3),.int .u8 (B 4),.int .u8 (B 5),.int .u8 (B 6),.int .u8 (B 7),.int .u8 (B 8),.int .u8 (B 9),.int .u8 (B 10),.int .u8 (B 11),.int .u8 (B 12),.int .u8 (B 13),.int .u8 (B 14),.int .u8 (B 15)] 27)) w.heap.size 27 true B):=Lib.hid (AdBox.made w _ true B)
 have HW:Hid (Below w.heap.size w (w.alloc (.cells #[.bool true,.int .u8 (B 0),.int .u8 (B 1),.int .u8 (B 2),.int .u8 (B 3),.int .u8 (B 4),.int .u8 (B 5),.int .u8 (B 6),.int .u8 (B 7),.int .u8 (B 8),.int .u8 (B 9),.int .u8 (B 10),.int .u8 (B 11),.int .u8 (B 12),.int .u8 (B 13),.int .u8 (B 14),.int .u8 (B 15)] 27))):=Lib.hid (Below.all (Below.refl w.heap.size w) _)
 unfold adV at*
 go_enter Tryz.func72,Tryz.ntmps72
 go_wp2_with fail
 generalize hw1:w.alloc (.cells #[.bool true,.int .u8 (B 0),.int .u8 (B 1),.int .u8 (B 2),.int .u8 (B 3),.int .u8 (B 4),.int .u8 (B 5),.int .u8 (B 6),.int .u8 (B 7),.int .u8 (B 8),.int .u8 (B 9),.int .u8 (B 10),.int .u8 (B 11),.int .u8 (B 12),.int .u8 (B 13),.int .u8 (B 14),.int .u8 (B 15)] 27)=w1 at*
 have hs1:w1.heap.size=w.heap.size+1:=by rw[←hw1];simp
 clear hw1
 refine Calls.mono (HR.out _) ?_
 rintro e w2 ⟨rfl,hb2⟩
 have HX2:=Lib.hid (HX.out.below hb2)
 have HW2:=Lib.hid (Below.via HW.out hb2)
 have hs2:w.heap.size+1≤w2.heap.size:=by have:=hb2.size;omega
 have hsx:=HX2.out.six
 clear hb2 HX HW hs1
 go_wp2_with fail
 clear hsx
 go_loopw [3,33] (fun u3 u33 wr=>∃(k:Nat) (oa:Option Addr) (cap:Nat),k≤8∧u33=.int .i64 k∧u3=.slice oa k cap∧Hid (Owns wr (w.heap.size+1) 1 oa k cap (((List.range k).map fun i=>digB 16 (grpN B i)).map strV))∧Hid (AdBox wr w.heap.size 27 true B)∧Hid (Below w.heap.size w wr)∧w.heap.size+1≤wr.heap.size) (fun _ u33 _=>(8:Int)-intOf u33 |>.toNat)
 case atStart=>exact⟨0,none,0,by omega,rfl,rfl,Lib.hid (Owns.nil _ _ _),HX2,HW2,hs2⟩
 case round=>
  obtain⟨k,oa,cap,hk,rfl,rfl,HO,HX,HW,hsr⟩:=hrel
  by_cases hlt:k<8
  ·have hpp:=HX.out.part
   have HR1:Hid (List.range (k+1)=List.range k++[k]):=Lib.hid List.range_succ
   have HGk:=Lib.hid (HG.out k hlt)
   have hgl:=HGL.out k
   rw[HGE.out k] at HGk
   have HBE:Hid (∃b,grpN B k=b):=Lib.hid ⟨_,rfl⟩
   obtain⟨b,hbe⟩:=HBE.out
   clear HBE
   have HBE:=Lib.hid hbe
   rw[hbe] at HGk hgl
   clear hbe
   go_wp2_with fail
   refine Calls.mono (HGk.out _) ?_
   rintro e w3 ⟨rfl,hb3⟩
   have HO3:=Lib.hid (HO.out.below hb3)
   have HX3:=Lib.hid (HX.out.below hb3)
   have HW3:=Lib.hid (Below.via HW.out hb3)
   have hs3:w.heap.size+1≤w3.heap.size:=by have:=hb3.size;omega
   clear hb3 hpp HO HX HW hsr
   go_wp2_with fail
   refine Calls.mono (fmt_16 b hgl w3 (HE.out.below HW3.out)) ?_
   rintro e w4 ⟨rfl,hb4⟩
   have HO4:=Lib.hid (HO3.out.below hb4)
   have HX4:=Lib.hid (HX3.out.below hb4)
   have HW4:=Lib.hid (Below.via HW3.out hb4)
   have hs4:w.heap.size+1≤w4.heap.size:=by have:=hb4.size;omega
   have HLT:=Lib.hid (fun a (ha:oa=some a)=>(HO4.out.lt ha).1)
   clear hb4 HO3 HX3 HW3 hs3
   go_wp2_with (at_builtin;refine Stopped.of ?_)
   refine Stopped.mk ?_
   refine wpList_append_owns _ rfl _ _ 76 rfl 9 (.string ⟨#[]⟩) 1 16 (w.heap.size+1) Tryz.underlying76 info_str rfl (by decide) oa k cap _ rfl (HO4.out.alloc _) ⟨w4.heap.size,0,none⟩ 1 1 [.string ⟨(digB 16 b).toArray⟩] rfl rfl ?_ ?_ (by decide) ?_ ?_ ?_ ?_
   ·exact news_new _ _ _
   ·simp[Value.oneCell']
   ·unfold maxLen;omega
   ·omega
   ·simp only[World.size_alloc];omega
   intro oa' cap' w5 ho' hg hd
   have HX5:=Lib.hid ((HX4.out.alloc (.cells #[.string ⟨(digB 16 b).toArray⟩] 9)).keep (hg.block _ (by simp;omega) (fun e=>by
    obtain⟨a,ha,hab⟩:=Option.map_eq_some_iff.1 e.symm
    have:=HLT.out a ha;omega)))
   have HW5:Hid (Below w.heap.size w w5):=Lib.hid (Below.appended (Below.all HW4.out _) (HO4.out.alloc _) (by omega) hg (by simp only[World.size_alloc];omega))
   have hs5:w.heap.size+1≤w5.heap.size:=by have:=hg.size;simp only[World.size_alloc] at this;omega
   have HO5:Hid (Owns w5 (w.heap.size+1) 1 oa' (k+1) cap' (((List.range (k+1)).map fun i=>digB 16 (grpN B i)).map strV)):=Lib.hid (by
    rw[HR1.out,List.map_append,List.map_append]
    simp only[List.map_cons,List.map_nil]
    rw[HBE.out]
    exact ho')
   clear hg hd ho' HX4 HW4 HO4 hs4 HLT
   go_wp2_with fail
   go_roundw
   case rel=>exact⟨k+1,oa',cap',by omega,by go_num,rfl,HO5,HX5,HW5,hs5⟩
   case measure=>simp[intOf];omega
  ·obtain rfl:k=8:=by omega
   have hpp:=HX.out.part
   have HPL:Hid (∀p∈(List.range 8).map fun i=>digB 16 (grpN B i),p.length≤4):=Lib.hid fun p hp=>by
    obtain⟨i,-,rfl⟩:=List.mem_map.1 hp
    exact digB16_len _ (HGL.out i)
   have HPN:Hid (((List.range 8).map fun i=>digB 16 (grpN B i)).length=8):=Lib.hid (by simp)
   clear HGL HGE HG HU HR
   generalize ((List.range 8).map fun i=>digB 16 (grpN B i))=P at*
   go_wp2_with fail
   refine Calls.mono (HN.out _) ?_
   rintro e w3 ⟨rfl,hb3⟩
   have HO3:=Lib.hid (HO.out.below hb3)
   have HW3:=Lib.hid (Below.via HW.out hb3)
   clear hb3 hpp HX HO HW HN
   by_cases hz:f=t
   ·have HT2:=HT.out
    rw[if_pos hz] at HT2
    have HT3:=Lib.hid HT2
    have hz2:(f:Int)=t:=by omega
    clear HT2 HT hz
    go_wp2_with fail
    refine Calls.mono (join_any oa 8 cap _ _ 58 w3 HO3.out (Nat.le_trans (joinL_len 58 4 _ HPL.out) (by rw[HPN.out];decide)) (by omega)) ?_
    rintro e w4 ⟨rfl,hb4⟩
    have HW4:=Lib.hid (Below.via HW3.out hb4)
    go_wp2_with fail
    go_ret
    exact .mk (by rw[HT3.out];rfl) HW4.out
   ·have HT2:=HT.out
    rw[if_neg hz] at HT2
    have HT3:=Lib.hid HT2
    have hz2:¬((f:Int)=t):=by omega
    have HT1:Hid (Owns w3 (w.heap.size+1) 1 oa f cap ((P.take f).map strV)):=Lib.hid (by rw[List.map_take];have:=HO3.out.take f (by omega);rwa [Nat.mul_one] at this)
    have HT4:Hid (Owns w3 (w.heap.size+1) 1 (cutAddr oa t cap 1) (8-t) (cap-t) ((P.drop t).map strV)):=Lib.hid (by rw[List.map_drop];have:=HO3.out.cut t (by omega);rwa [Nat.mul_one] at this)
    have hcap:=HO3.out.le
    have hct:=fun w=>run_cutTo (P:=Tryz.prog) 76 oa 8 cap 1 Tryz.underlying76 (by kernel_rfl) f (f:Int) rfl (by omega) w
    have hcu:=fun w=>run_cut (P:=Tryz.prog) 76 oa 8 cap 1 Tryz.underlying76 (by kernel_rfl) t (t:Int) rfl (by omega) w
    have hA:(joinL 58 (P.take f)).length≤1000:=Nat.le_trans (joinL_len 58 4 _ fun p hp=>HPL.out p (List.mem_of_mem_take hp)) (by rw[List.length_take,HPN.out];omega)
    have hC:(joinL 58 (P.drop t)).length≤1000:=Nat.le_trans (joinL_len 58 4 _ fun p hp=>HPL.out p (List.mem_of_mem_drop hp)) (by rw[List.length_drop,HPN.out];omega)
    have HJ1:=Lib.hid (fun(x:Later w3)=>join_any oa f cap _ _ 58 _ (HT1.out.later x) (by omega) (by omega))
    have HJ2:=Lib.hid (fun(x:Later w3)=>join_any _ (8-t) (cap-t) _ _ 58 _ (HT4.out.later x) (by omega) (by omega))
    generalize joinL 58 (P.take f)=A at*
    generalize joinL 58 (P.drop t)=C at*
    generalize cutAddr oa t cap 1=oc at*
    clear HT2 HT hz HT1 HT4 HO3 HPL HPN
    go_wp2_with fail
    have hl1:A.length+2≤9223372036854775807:=by omega
    have hl2:(A.length:Int)+2≤9223372036854775807:=by omega
    have hl3:A.length+2+C.length≤9223372036854775807:=by omega
    have hl4:(A.length:Int)+2+(C.length:Int)≤9223372036854775807:=by omega
    refine wp_region_later (by kernel_rfl) (by kernel_rfl) ?_
    iterate 3 go_big_quiet_step (fail)
    go_big_quiet_step ((go_at_call 70;exact later_call (HJ1.out _)))
    iterate 4 go_big_quiet_step (fail)
    go_big_quiet_step ((go_at_call 70;exact later_call (HJ2.out _)))
    repeat go_big_quiet_step (fail)
    refine wpQuiet_nil ?_
    intro x
    go_wp2_with fail
    go_ret
    refine .mk ?_ (HW3.out.trans (x.below.mono HW3.out.size))
    rw[HT3.out,←bytes_append,←bytes_append];rfl
theorem text_wrong (six:Bool)(B:Nat→Int)(hr:rightB six B=false)(w:World):
 Calls Tryz.prog 72 #[adV six B] w (RetAt w (.string ⟨([]:List UInt8).toArray⟩)):=by
 have HR:Hid (∀w,Calls Tryz.prog 68 #[adV six B] w (RetAt w (.bool false))):=Lib.hid fun w=>by rw[←hr];exact right_any six B w
 clear hr
 unfold adV at*
 go_enter Tryz.func72,Tryz.ntmps72
 go_wp2_with fail
 refine Calls.later (HR.out _) ?_
 intro x
 go_wp2_with fail
 go_ret
 exact .mk rfl (Below.lat (Below.all (Below.refl _ _) _))
def adText (six:Bool)(B:Nat→Int):List UInt8:=if rightB six B=true then (if six=true then text6 (grpN B) else text4 fun i=>(B i).toNat) else []
theorem text_any (six:Bool)(B:Nat→Int)(hB:U8 B)(w:World)(henv:Env w):
 Calls Tryz.prog 72 #[adV six B] w (RetAt w (.string ⟨(adText six B).toArray⟩)):=by
 unfold adText
 by_cases h:rightB six B=true
 ·rw[if_pos h]
  cases six
  ·exact text_four B hB h w henv
  ·exact text_six B hB w henv
 ·rw[if_neg h]
  exact text_wrong six B (by simpa using h) w
theorem parseV_cases (s:List UInt8):(∃(six:Bool) (B:Nat→Int),parseL s=some (six,B)∧rightB six B=true∧U8 B∧parseV (parseL s)=.tuple #[adV six B,.int .i64 0])∨(parseL s=none∧parseV (parseL s)=.tuple #[adV false fun _=>0,.int .i64 40]):=by
 cases h:parseL s with
 |none=>exact .inr ⟨rfl,rfl⟩
 |some p=>
  obtain⟨six,B⟩:=p
  have:=parseL_right h
  exact .inl ⟨six,B,rfl,this.1,this.2,rfl⟩
end
section
open Go.Lib Go.RowKit
theorem joinL_mem (x c:UInt8):∀L:List (List UInt8),x∈joinL c L→x=c∨∃p∈L,x∈p
 |[],h=>by simp[joinL] at h
 |[p],h=>.inr ⟨p,by simp,by simpa[joinL] using h⟩
 |p::q::l,h=>by
  rw[joinL_cons2] at h
  rcases List.mem_append.1 h with h|h
  ·exact .inr ⟨p,by simp,h⟩
  ·rcases List.mem_cons.1 h with h|h
   ·exact .inl h
   ·rcases joinL_mem x c (q::l) h with h|⟨r,hr,hx⟩
    ·exact .inl h
    ·exact .inr ⟨r,by simp at hr⊢;exact .inr hr,hx⟩
theorem dec3:∀b:Fin 256,(Lib.decDigits b).length≤3:=by decide+kernel
theorem adText_max (s:Bool)(B:Nat→Int)(hB:U8 B):(adText s B).length≤100:=by
 unfold adText
 split
 ·split
  ·have hp:∀p∈(List.range 8).map fun i=>digB 16 (grpN B i),p.length≤4:=fun p hp=>by
    obtain⟨i,-,rfl⟩:=List.mem_map.1 hp
    exact digB16_len _ (grpN_lt hB i)
   rw[text6_of]
   split
   ·exact Nat.le_trans (joinL_len 58 4 _ hp) (by simp)
   ·have h1:=joinL_len 58 4 (((List.range 8).map fun i=>digB 16 (grpN B i)).take (noughtsZ (zg (grpN B))).1) (fun p h=>hp p (List.mem_of_mem_take h))
    have h2:=joinL_len 58 4 (((List.range 8).map fun i=>digB 16 (grpN B i)).drop (noughtsZ (zg (grpN B))).2) (fun p h=>hp p (List.mem_of_mem_drop h))
    rw[List.length_take,List.length_map,List.length_range] at h1
    rw[List.length_drop,List.length_map,List.length_range] at h2
    simp only[List.length_append,List.length_cons,List.length_nil]
    have h3:min (noughtsZ (zg (grpN B))).1 8*(4+1)≤40:=by have:=Nat.min_le_right (noughtsZ (zg (grpN B))).1 8;omega
    have h4:(8-(noughtsZ (zg (grpN B))).2)*(4+1)≤40:=by omega
    omega
  ·refine Nat.le_trans (joinL_len 46 3 _ fun p hp=>?_) (by simp)
   obtain⟨i,-,rfl⟩:=List.mem_map.1 hp
   have:=hB i
   exact dec3 ⟨(B i).toNat,by omega⟩
 ·simp
section
end
end
section
def tHead (p:Int):Nat:=if p=6 then 20 else if p=17 then 8 else if p=1∨p=58 then 4 else 0
def tcpN (l:List Int):Nat:=(l.getD 12 0/16).toNat*4
def tErr (p:Int)(l:List Int):Int:=
 if tHead p=0 then 70 else if l.length<tHead p then 10 else if 65535<l.length then 51
 else if p=6 then (if tcpN l<20 then 51 else if l.length<tcpN l then 10 else 0)
 else if p=17 then (if w2 l 4<8 then 51 else if (l.length:Int)<w2 l 4 then 10 else 0) else 0
structure Seg where
 proto:Int
 src:Int
 dst:Int
 seq:Int
 ack:Int
 flags:Int
 win:Int
 urg:Int
 opt:List Int
 type:Int
 code:Int
 data:List Int
def segZ:Seg:=⟨0,0,0,0,0,0,0,0,[],0,0,[]⟩
def tSeg (p:Int)(l:List Int):Seg:=
 if p=6 then ⟨6,w2 l 0,w2 l 2,w4 l 4,w4 l 8,l.getD 13 0,w2 l 14,w2 l 18,(l.take (tcpN l)).drop 20,0,0,l.drop (tcpN l)⟩
 else if p=17 then ⟨17,w2 l 0,w2 l 2,0,0,0,0,0,[],0,0,(l.take (w2 l 4).toNat).drop 8⟩
 else ⟨p,0,0,0,0,0,0,0,[],l.getD 0 0,l.getD 1 0,l.drop 4⟩
def tParse (p:Int)(l:List Int):Seg:=if tErr p l=0 then tSeg p l else segZ
def tStands (p a b f n c:Int)(data:List Int):List Int:=
 if p=6 then be2 a++be2 b++[0,0,0,0,0,0,0,0,80,f,0,0]++be2 c++[0,0]++data
 else if p=17 then be2 a++be2 b++be2 n++be2 c++data
 else [a,b]++be2 c++data
def pseudoL (p:Int)(n:Int)(src dst:List Int):List Int:=
 if p=1 then [] else if src.length=4 then src++dst++[0,p]++be2 n else src++dst++[0,0]++be2 n++[0,0,0,p]
def tSum (p a b f n:Int)(data src dst:List Int):Int:=
 let c:Int:=sumOf (pseudoL p n src dst++tStands p a b f n 0 data)
 if c=0∧p=17 then 65535 else c
def tPut (p a b f:Int)(data src dst:List Int):List Int:=
 let n:Int:=(tHead p+data.length:Nat)
 tStands p a b f n (tSum p a b f n data src dst) data
structure Outer where
 six:Bool
 src:Nat→Int
 dst:Nat→Int
 proto:Int
 len:Int
 frag:Bool
 more:Bool
 body:List Int
def sxChain (l:List Int):ChAll:=chRun 17 [] (l.getD 6 0) 0 ((l.drop 40).take (w2 l 4).toNat)
def sxBodyErr (l:List Int):Int:=if sxErr l≠0 then sxErr l else if (l.length:Int)<40+w2 l 4 then 10 else match sxChain l with
 | .err e=>e
 | .done _ _ _=>0
def sxExts (l:List Int):ExtL:=match sxChain l with
 | .err _=>[]
 | .done xs _ _=>xs
def sxProto (l:List Int):Int:=match sxChain l with
 | .err _=>0
 | .done _ p _=>p
def sxAt (l:List Int):Nat:=match sxChain l with
 | .err _=>0
 | .done _ _ i=>i
def sxBodyL (l:List Int):List Int:=((l.drop 40).take (w2 l 4).toNat).drop (sxAt l)
def outFour (l:List Int):Outer:=⟨false,fromB ((l.drop 12).take 4),fromB ((l.drop 16).take 4),l.getD 9 0,w2 l 2,decide (0<w2 l 6%8192),(w2 l 6/8192%2==1),ipBody l⟩
def outSix (l:List Int):Outer:=⟨true,fromB ((l.drop 8).take 16),fromB ((l.drop 24).take 16),sxProto l,40+w2 l 4,decide (0<fragOff (sxExts l)),fragMore (sxExts l),sxBodyL l⟩
def isPorts (p:Int):Bool:=p==6||p==17
def isIcmp (p:Int):Bool:=p==1||p==58
structure Upper where
 err:Int
 src:Int
 dst:Int
 flags:Int
def upWhole (p:Int)(l:List Int):Upper:=let s:=tParse p l;⟨tErr p l,s.src,if isIcmp p then s.type*256+s.code else s.dst,s.flags⟩
def upPart (p:Int)(l:List Int):Upper:=
 if isIcmp p then (if l.length<2 then ⟨10,0,0,0⟩ else ⟨0,0,w2 l 0,0⟩)
 else (if l.length<4 then ⟨10,0,0,0⟩ else ⟨0,w2 l 0,w2 l 2,if p=6∧14≤l.length then l.getD 13 0 else 0⟩)
def upOf (o:Outer):Upper:=if (isPorts o.proto||isIcmp o.proto)&&!o.frag then (if o.more then upPart o.proto o.body else upWhole o.proto o.body) else ⟨0,0,0,0⟩
structure Pk where
 six:Bool
 src:Nat→Int
 dst:Nat→Int
 proto:Int
 sp:Int
 dp:Int
 len:Int
 flags:Int
 frag:Bool
def pkZ:Pk:=⟨false,fun _=>0,fun _=>0,0,0,0,0,0,false⟩
def pkOut (o:Outer)(u:Upper):Pk:=⟨o.six,o.src,o.dst,o.proto,u.src,u.dst,o.len,u.flags,o.frag⟩
def pkErr (l:List Int):Int:=
 if 2048<l.length then 3 else if l.length=0 then 10
 else if l.getD 0 0/16=4 then (if ipBodyErr l≠0 then ipBodyErr l else (upOf (outFour l)).err)
 else if l.getD 0 0/16=6 then (if sxBodyErr l≠0 then sxBodyErr l else (upOf (outSix l)).err) else 50
def pkOf (l:List Int):Pk:=
 if pkErr l≠0 then pkZ else if l.getD 0 0/16=4 then pkOut (outFour l) (upOf (outFour l)) else pkOut (outSix l) (upOf (outSix l))
def pkCells (k:Pk):Array Value:=#[.bool k.six,.int .u8 (k.src 0),.int .u8 (k.src 1),.int .u8 (k.src 2),.int .u8 (k.src 3),.int .u8 (k.src 4),.int .u8 (k.src 5),.int .u8 (k.src 6),.int .u8 (k.src 7),.int .u8 (k.src 8),.int .u8 (k.src 9),.int .u8 (k.src 10),.int .u8 (k.src 11),.int .u8 (k.src 12),.int .u8 (k.src 13),.int .u8 (k.src 14),.int .u8 (k.src 15),.bool k.six,.int .u8 (k.dst 0),.int .u8 (k.dst 1),.int .u8 (k.dst 2),.int .u8 (k.dst 3),.int .u8 (k.dst 4),.int .u8 (k.dst 5),.int .u8 (k.dst 6),.int .u8 (k.dst 7),.int .u8 (k.dst 8),.int .u8 (k.dst 9),.int .u8 (k.dst 10),.int .u8 (k.dst 11),.int .u8 (k.dst 12),.int .u8 (k.dst 13),.int .u8 (k.dst 14),.int .u8 (k.dst 15),.int .u8 k.proto,.int .u16 k.sp,.int .u16 k.dp,.int .i64 k.len,.int .u8 k.flags,.bool k.frag]
def pkR (l:List Int):Value:=.tuple #[.agg (pkCells (pkOf l)),.int .i64 (pkErr l)]
end
end Go.Proofs.YtkgjbipfhhjlpaaGreatDoor
namespace Go.Proofs.YtkgjbipfhhjlpaaGreatDoor.Bits
open Go.RowKit
theorem dec_mk' {p:Prop}[Decidable p]{b:Bool}(h:b=true↔p):b=decide p:=by rw[Bool.eq_iff_iff,h];simp
def rightB (n:Int):Bool:=decide (1≤n∧n≤8)
theorem right_any (n:Int)(w:World):Calls Tryz.prog 142 #[.int .i64 n] w (RetAt w (.bool (rightB n))):=by
 go_enter Tryz.func142,Tryz.ntmps142
 go_wp2
 all_goals go_ret
 all_goals refine .mk (val_bool (dec_mk' ?_)) (by go_grown)
 all_goals simp
 all_goals omega
theorem least_any (v:Int)(n:Nat)(h0:0≤v)(h1:v<256^n)(hn1:1≤n)(hn:n≤8)(w:World):
 Calls Tryz.prog 176 #[.int .u64 v] w (fun e w'=>∃k:Int,e=.returned (.int .i64 k)∧1≤k∧k≤n∧Below w.heap.size w w'):=by
 go_enter Tryz.func176,Tryz.ntmps176
 go_wp2_with fail
 have hv:v/256<256^(n-1):=by
  obtain⟨m,rfl⟩:∃m,n=m+1:=⟨n-1,by omega⟩
  rw[Int.pow_succ] at h1
  simp only[Nat.add_sub_cancel]
  generalize (256:Int)^m=p at*
  omega
 have HV:=Lib.hid hv
 clear hv h1
 go_loopw [0,3] (fun u0 u3 wr=>∃(x k:Int) (m:Nat),u0=.int .u64 x∧u3=.int .i64 k∧0≤x∧Hid (x<256^m)∧1≤k∧k+m=n∧Below w.heap.size w wr) (fun u0 _ _=>(intOf u0).toNat)
 case atStart=>exact⟨v/256,1,n-1,rfl,rfl,by omega,HV,by omega,by omega,Below.refl _ _⟩
 case round=>
  obtain⟨x,k,m,rfl,rfl,hx,HX,hk,hkm,hb⟩:=hrel
  by_cases hx0:0<x
  ·obtain⟨m,rfl⟩:∃m',m=m'+1:=by
    refine⟨m-1,?_⟩
    have:=HX.out
    rcases Nat.eq_zero_or_pos m with e|e
    ·subst e;simp at this;omega
    ·omega
   have hx2:x/256<256^m:=by
    have:=HX.out
    rw[Int.pow_succ] at this
    generalize (256:Int)^m=p at*
    omega
   have HX2:=Lib.hid hx2
   clear hx2
   go_wp2_with fail
   go_roundw
   case rel=>exact⟨x/256,k+1,m,by go_num,by go_num,by omega,HX2,by omega,by omega,hb⟩
   case measure=>simp[intOf];omega
  ·go_wp2_with fail
   go_ret
   exact⟨k,rfl,hk,by omega,hb⟩
theorem fits_any (v:Int)(n:Nat)(h0:0≤v)(h1:v<256^n)(hn1:1≤n)(hn:n≤8)(w:World):
 Calls Tryz.prog 124 #[.int .u64 v,.int .i64 n] w (RetAt w (.bool true)):=by
 have hr:rightB n=true:=by simp[rightB];omega
 go_enter Tryz.func124,Tryz.ntmps124
 go_wp2_with (go_at_call 142;refine Calls.later (right_any _ _) ?_;intro x;rw[hr])
 refine Calls.mono (least_any v n h0 h1 hn1 hn _) ?_
 rintro e w' ⟨k,rfl,hk1,hk2,hb⟩
 go_wp2_with fail
 go_ret
 refine .mk (val_bool ?_) (x.below.trans (hb.mono x.below.size))
 first|(simp;done)|(simp;omega)
def be4 (v:Int):List Int:=[v/16777216%256,v/65536%256,v/256%256,v%256]
theorem infoU8:(Tryz.prog.info? 5).map (fun i=>(i.zero,i.size,i.bytes))=some (some (.int .u8 0),1,1):=by kernel_rfl
theorem make1 (w:World):(Instr.makeSlice 22 (.int .i64 1) (.int .i64 1)).run Tryz.prog w=.ok (.slice (some ⟨w.heap.size,0,none⟩) 1 1) (w.alloc (.cells #[.int .u8 0] 5)):=
 (run_make_row' 22 5 (.int .u8 0) 1 Tryz.underlying22 infoU8 rfl .i64 .i64 1 (by decide) (by decide) w).trans (by rw[show madeCells #[Value.int .u8 0] 1=#[.int .u8 0] from by kernel_rfl])
theorem make4 (w:World):(Instr.makeSlice 22 (.int .i64 4) (.int .i64 4)).run Tryz.prog w=.ok (.slice (some ⟨w.heap.size,0,none⟩) 4 4) (w.alloc (.cells #[.int .u8 0,.int .u8 0,.int .u8 0,.int .u8 0] 5)):=
 (run_make_row' 22 5 (.int .u8 0) 1 Tryz.underlying22 infoU8 rfl .i64 .i64 4 (by decide) (by decide) w).trans (by rw[show madeCells #[Value.int .u8 0] 4=#[.int .u8 0,.int .u8 0,.int .u8 0,.int .u8 0] from by kernel_rfl])
theorem of1_any (v:Int)(h0:0≤v)(h1:v<256)(w:World):Calls Tryz.prog 125 #[.int .u64 v,.int .i64 1] w (NewBytes w ([v])):=by
 have hm:=make1
 go_enter Tryz.func125,Tryz.ntmps125
 go_wp2_with fail
 refine wp_loop_rounds 2 ?_
 rw[rounds_succ]
 go_wp2_with fail
 rw[rounds_succ]
 go_wp2_with fail
 go_ret
 refine⟨_,_,rfl,?_,?_⟩
 ·refine Owns.made _ 1 1 5 _ (Nat.le_refl _) (Nat.le_refl 1) (Nat.le_refl 1) (by decide) ?_
  simp[List.take]
  all_goals omega
 ·exact(Below.refl _ _).alloc (Nat.le_refl _) _
theorem of4_any (v:Int)(h0:0≤v)(h1:v<4294967296)(w:World):Calls Tryz.prog 125 #[.int .u64 v,.int .i64 4] w (NewBytes w (be4 v)):=by
 have hm:=make4
 go_enter Tryz.func125,Tryz.ntmps125
 go_wp2_with fail
 refine wp_loop_rounds 5 ?_
 rw[rounds_succ]
 go_wp2_with fail
 rw[rounds_succ]
 go_wp2_with fail
 rw[rounds_succ]
 go_wp2_with fail
 rw[rounds_succ]
 go_wp2_with fail
 rw[rounds_succ]
 go_wp2_with fail
 go_ret
 refine⟨_,_,rfl,?_,?_⟩
 ·refine Owns.made _ 4 4 5 _ (Nat.le_refl _) (Nat.le_refl 4) (Nat.le_refl 4) (by decide) ?_
  simp[be4]
  all_goals omega
 ·exact(Below.refl _ _).alloc (Nat.le_refl _) _
end Go.Proofs.YtkgjbipfhhjlpaaGreatDoor.Bits
namespace Go.Proofs.YtkgjbipfhhjlpaaGreatDoor
section
open Bits
structure Ky where
 s:Bool
 S:Nat→Int
 t:Bool
 T:Nat→Int
 p:Int
 a:Int
 b:Int
structure KyOk (k:Ky):Prop where
 S:U8 k.S
 T:U8 k.T
 p:0≤k.p∧k.p<256
 a:0≤k.a∧k.a<65536
 b:0≤k.b∧k.b<65536
def kyC (s:Bool)(S:Nat→Int)(t:Bool)(T:Nat→Int)(p a b:Int):Array Value:=#[.bool s,.int .u8 (S 0),.int .u8 (S 1),.int .u8 (S 2),.int .u8 (S 3),.int .u8 (S 4),.int .u8 (S 5),.int .u8 (S 6),.int .u8 (S 7),.int .u8 (S 8),.int .u8 (S 9),.int .u8 (S 10),.int .u8 (S 11),.int .u8 (S 12),.int .u8 (S 13),.int .u8 (S 14),.int .u8 (S 15),.bool t,.int .u8 (T 0),.int .u8 (T 1),.int .u8 (T 2),.int .u8 (T 3),.int .u8 (T 4),.int .u8 (T 5),.int .u8 (T 6),.int .u8 (T 7),.int .u8 (T 8),.int .u8 (T 9),.int .u8 (T 10),.int .u8 (T 11),.int .u8 (T 12),.int .u8 (T 13),.int .u8 (T 14),.int .u8 (T 15),.int .u8 p,.int .u16 a,.int .u16 b]
def kyV (k:Ky):Array Value:=kyC k.s k.S k.t k.T k.p k.a k.b
def kyZ:Ky:=⟨false,fun _=>0,false,fun _=>0,0,0,0⟩
def kyPlain (p a b:Int):Bool:=isPorts p||(a==0&&(isIcmp p||b==0))
def kyRight (k:Ky):Bool:=rightB k.s k.S&&(rightB k.t k.T&&(k.s==k.t&&kyPlain k.p k.a k.b))
def kyText (k:Ky):List UInt8:=if kyRight k then joinL 32 [Lib.decDigits k.p.toNat,adText k.s k.S,Lib.decDigits k.a.toNat,adText k.t k.T,Lib.decDigits k.b.toNat] else []
structure Sp where
 k:Ky
 f:Int
 n:Int
structure SpOk (s:Sp):Prop where
 k:KyOk s.k
 f:0≤s.f∧s.f<256
 n:-9223372036854775808≤s.n∧s.n≤9223372036854775807
def spV (s:Sp):Array Value:=#[.bool s.k.s,.int .u8 (s.k.S 0),.int .u8 (s.k.S 1),.int .u8 (s.k.S 2),.int .u8 (s.k.S 3),.int .u8 (s.k.S 4),.int .u8 (s.k.S 5),.int .u8 (s.k.S 6),.int .u8 (s.k.S 7),.int .u8 (s.k.S 8),.int .u8 (s.k.S 9),.int .u8 (s.k.S 10),.int .u8 (s.k.S 11),.int .u8 (s.k.S 12),.int .u8 (s.k.S 13),.int .u8 (s.k.S 14),.int .u8 (s.k.S 15),.bool s.k.t,.int .u8 (s.k.T 0),.int .u8 (s.k.T 1),.int .u8 (s.k.T 2),.int .u8 (s.k.T 3),.int .u8 (s.k.T 4),.int .u8 (s.k.T 5),.int .u8 (s.k.T 6),.int .u8 (s.k.T 7),.int .u8 (s.k.T 8),.int .u8 (s.k.T 9),.int .u8 (s.k.T 10),.int .u8 (s.k.T 11),.int .u8 (s.k.T 12),.int .u8 (s.k.T 13),.int .u8 (s.k.T 14),.int .u8 (s.k.T 15),.int .u8 s.k.p,.int .u16 s.k.a,.int .u16 s.k.b,.int .u8 s.f,.int .i64 s.n]
def zerosL (n:Nat):List Int:=List.replicate n 0
def spBad (s:Sp):Bool:=!(kyRight s.k)||((s.k.s&&behindB s.k.p)||((s.f != 0&&s.k.p != 6)||decide (s.n<0)))
def spBody (s:Sp):List Int:=
 let d:=zerosL s.n.toNat
 let src:=adBytes s.k.s s.k.S
 let dst:=adBytes s.k.t s.k.T
 if isPorts s.k.p then tPut s.k.p s.k.a s.k.b s.f d src dst
 else if isIcmp s.k.p then tPut s.k.p (s.k.b/256) (s.k.b%256) 0 d src dst else d
def spFour (s:Sp)(n:Nat):IpH:=⟨0,20+(n:Int),0,false,false,0,64,s.k.p,adBytes false s.k.S,adBytes false s.k.T,[]⟩
def spSix (s:Sp)(n:Nat):List Int:=be4 1610612736++be2 (n:Int)++[s.k.p,64]++adBytes true s.k.S++adBytes true s.k.T
def spHead (s:Sp):List Int:=if s.k.s then spSix s (spBody s).length else ipPut (spFour s (spBody s).length)
def spErr (s:Sp):Int:=if spBad s then 2 else if 2048<s.n then 3 else if 2048<(spHead s++spBody s).length then 3 else 0
def spL (s:Sp):List Int:=if spErr s=0 then spHead s++spBody s else []
open Go.RowKit
theorem oneL_slice (a:Option Addr)(n c:Nat)(r:List Value):oneL (.slice a n c::r)=oneL r:=by rw[oneL];rfl
theorem oneL_func (f:Fn)(a b:Array Value)(r:List Value):oneL (.func f a b::r)=oneL r:=by rw[oneL];rfl
attribute [go_sem] oneL_slice oneL_func
theorem partOf_cells4 {w:World}{b off:Nat}{v0 v1 v2 v3:Value}(h0:w.cell? ⟨b,off,none⟩=some v0)(h1:w.cell? ⟨b,off+1,none⟩=some v1)(h2:w.cell? ⟨b,off+2,none⟩=some v2)(h3:w.cell? ⟨b,off+3,none⟩=some v3):partOf w b off 4=#[v0,v1,v2,v3]:=by
 unfold World.cell? at h0 h1 h2 h3
 unfold partOf
 cases hh:w.heap[b]? with
 |none=>rw[hh] at h0;simp at h0
 |some ob=>
  rw[hh] at h0 h1 h2 h3
  cases ob with
  |cells cs t fr=>
   simp only at h0 h1 h2 h3⊢
   have g0:cs[off]? =some v0:=by simpa using h0
   have g1:cs[off+1]? =some v1:=by simpa using h1
   have g2:cs[off+2]? =some v2:=by simpa using h2
   have g3:cs[off+3]? =some v3:=by simpa using h3
   have hs:off+3<cs.size:=(Array.getElem?_eq_some_iff.1 g3).1
   apply Array.ext_getElem?
   intro j
   rw[Array.getElem?_extract]
   rcases j with _|_|_|_|j
   ·simp[g0];omega
   ·simp[g1];omega
   ·simp[g2];omega
   ·simp[g3];omega
   ·simp;omega
  |_=>simp at h0
theorem exec_load_ar4 (ev:Operand→Value)(w:World)(dst:Option Tmp)(t:TypeId)(pos:String)(after:Array Edge)(g:Option (Nat×Bool))(x:Operand):(execOp ev ⟨dst,.load 111 x,t,pos,after,g⟩).run Tryz.prog w=ldRun Tryz.prog 111 w (ev x):=exec_load _ ev w dst t pos after g x _
theorem run_load_ar4 (w:World)(b off:Nat)(hs:(partOf w b off 4).size=4):ldRun Tryz.prog 111 w (.pointer (some ⟨b,off,none⟩))=.ok (.value (.agg (partOf w b off 4))) w:=
 run_exec_load _ w none 0 "" #[] none _ _ 4 _ Tryz.underlying111 rfl (by kernel_rfl) (by decide) hs
theorem exec_load_iph (ev:Operand→Value)(w:World)(dst:Option Tmp)(t:TypeId)(pos:String)(after:Array Edge)(g:Option (Nat×Bool))(x:Operand):(execOp ev ⟨dst,.load 113 x,t,pos,after,g⟩).run Tryz.prog w=ldRun Tryz.prog 113 w (ev x):=exec_load _ ev w dst t pos after g x _
theorem run_load_iph (w:World)(b off:Nat)(hs:(partOf w b off 17).size=17):ldRun Tryz.prog 113 w (.pointer (some ⟨b,off,none⟩))=.ok (.value (.agg (partOf w b off 17))) w:=
 run_exec_load _ w none 0 "" #[] none _ _ 17 _ Tryz.underlying113 rfl (by kernel_rfl) (by decide) hs
theorem exec_store_iph (ev:Operand→Value)(w:World)(dst:Option Tmp)(t:TypeId)(pos:String)(after:Array Edge)(g:Option (Nat×Bool))(x y:Operand):(execOp ev ⟨dst,.store 113 x y,t,pos,after,g⟩).run Tryz.prog w=stRun Tryz.prog 113 w (ev x) (ev y):=exec_store _ ev w dst t pos after g x y _
theorem run_store_iph (w:World)(b:Nat)(cs:Array Value)(hx:rowFree w b 17=true)(hs:cs.size=17)(h1:oneL cs.toList=true):stRun Tryz.prog 113 w (.pointer (some ⟨b,0,none⟩)) (.agg cs)=.ok .skip (w.setRow b cs):=
 run_exec_store _ w none 0 "" #[] none _ _ _ 17 (by kernel_rfl) hx (by show aggOk _ (.agg cs)=true;rw[aggOk_agg,←Array.all_toList,oneL_all _ h1,hs];simp)
theorem info_iph:(Tryz.prog.info? 113).map (·.size)=some 17:=by kernel_rfl
theorem exec_load_riph (ev:Operand→Value)(w:World)(dst:Option Tmp)(t:TypeId)(pos:String)(after:Array Edge)(g:Option (Nat×Bool))(x:Operand):(execOp ev ⟨dst,.load 106 x,t,pos,after,g⟩).run Tryz.prog w=ldRun Tryz.prog 106 w (ev x):=exec_load _ ev w dst t pos after g x _
theorem run_load_riph (w:World)(b off:Nat)(hs:(partOf w b off 11).size=11):ldRun Tryz.prog 106 w (.pointer (some ⟨b,off,none⟩))=.ok (.value (.agg (partOf w b off 11))) w:=
 run_exec_load _ w none 0 "" #[] none _ _ 11 _ Tryz.underlying106 rfl (by kernel_rfl) (by decide) hs
theorem exec_load_seg (ev:Operand→Value)(w:World)(dst:Option Tmp)(t:TypeId)(pos:String)(after:Array Edge)(g:Option (Nat×Bool))(x:Operand):(execOp ev ⟨dst,.load 149 x,t,pos,after,g⟩).run Tryz.prog w=ldRun Tryz.prog 149 w (ev x):=exec_load _ ev w dst t pos after g x _
theorem run_load_seg (w:World)(b off:Nat)(hs:(partOf w b off 12).size=12):ldRun Tryz.prog 149 w (.pointer (some ⟨b,off,none⟩))=.ok (.value (.agg (partOf w b off 12))) w:=
 run_exec_load _ w none 0 "" #[] none _ _ 12 _ Tryz.underlying149 rfl (by kernel_rfl) (by decide) hs
theorem exec_store_seg (ev:Operand→Value)(w:World)(dst:Option Tmp)(t:TypeId)(pos:String)(after:Array Edge)(g:Option (Nat×Bool))(x y:Operand):(execOp ev ⟨dst,.store 149 x y,t,pos,after,g⟩).run Tryz.prog w=stRun Tryz.prog 149 w (ev x) (ev y):=exec_store _ ev w dst t pos after g x y _
theorem run_store_seg (w:World)(b:Nat)(cs:Array Value)(hx:rowFree w b 12=true)(hs:cs.size=12)(h1:oneL cs.toList=true):stRun Tryz.prog 149 w (.pointer (some ⟨b,0,none⟩)) (.agg cs)=.ok .skip (w.setRow b cs):=
 run_exec_store _ w none 0 "" #[] none _ _ _ 12 (by kernel_rfl) hx (by show aggOk _ (.agg cs)=true;rw[aggOk_agg,←Array.all_toList,oneL_all _ h1,hs];simp)
theorem info_seg:(Tryz.prog.info? 149).map (·.size)=some 12:=by kernel_rfl
theorem exec_load_rseg (ev:Operand→Value)(w:World)(dst:Option Tmp)(t:TypeId)(pos:String)(after:Array Edge)(g:Option (Nat×Bool))(x:Operand):(execOp ev ⟨dst,.load 102 x,t,pos,after,g⟩).run Tryz.prog w=ldRun Tryz.prog 102 w (ev x):=exec_load _ ev w dst t pos after g x _
theorem run_load_rseg (w:World)(b off:Nat)(hs:(partOf w b off 12).size=12):ldRun Tryz.prog 102 w (.pointer (some ⟨b,off,none⟩))=.ok (.value (.agg (partOf w b off 12))) w:=
 run_exec_load _ w none 0 "" #[] none _ _ 12 _ Tryz.underlying102 rfl (by kernel_rfl) (by decide) hs
theorem exec_store_rseg (ev:Operand→Value)(w:World)(dst:Option Tmp)(t:TypeId)(pos:String)(after:Array Edge)(g:Option (Nat×Bool))(x y:Operand):(execOp ev ⟨dst,.store 102 x y,t,pos,after,g⟩).run Tryz.prog w=stRun Tryz.prog 102 w (ev x) (ev y):=exec_store _ ev w dst t pos after g x y _
theorem run_store_rseg (w:World)(b:Nat)(cs:Array Value)(hx:rowFree w b 12=true)(hs:cs.size=12)(h1:oneL cs.toList=true):stRun Tryz.prog 102 w (.pointer (some ⟨b,0,none⟩)) (.agg cs)=.ok .skip (w.setRow b cs):=
 run_exec_store _ w none 0 "" #[] none _ _ _ 12 (by kernel_rfl) hx (by show aggOk _ (.agg cs)=true;rw[aggOk_agg,←Array.all_toList,oneL_all _ h1,hs];simp)
theorem exec_load_key (ev:Operand→Value)(w:World)(dst:Option Tmp)(t:TypeId)(pos:String)(after:Array Edge)(g:Option (Nat×Bool))(x:Operand):(execOp ev ⟨dst,.load 30 x,t,pos,after,g⟩).run Tryz.prog w=ldRun Tryz.prog 30 w (ev x):=exec_load _ ev w dst t pos after g x _
theorem run_load_key (w:World)(b off:Nat)(hs:(partOf w b off 37).size=37):ldRun Tryz.prog 30 w (.pointer (some ⟨b,off,none⟩))=.ok (.value (.agg (partOf w b off 37))) w:=
 run_exec_load _ w none 0 "" #[] none _ _ 37 _ Tryz.underlying30 rfl (by kernel_rfl) (by decide) hs
theorem exec_store_key (ev:Operand→Value)(w:World)(dst:Option Tmp)(t:TypeId)(pos:String)(after:Array Edge)(g:Option (Nat×Bool))(x y:Operand):(execOp ev ⟨dst,.store 30 x y,t,pos,after,g⟩).run Tryz.prog w=stRun Tryz.prog 30 w (ev x) (ev y):=exec_store _ ev w dst t pos after g x y _
theorem run_store_key (w:World)(b:Nat)(cs:Array Value)(hx:rowFree w b 37=true)(hs:cs.size=37)(h1:oneL cs.toList=true):stRun Tryz.prog 30 w (.pointer (some ⟨b,0,none⟩)) (.agg cs)=.ok .skip (w.setRow b cs):=
 run_exec_store _ w none 0 "" #[] none _ _ _ 37 (by kernel_rfl) hx (by show aggOk _ (.agg cs)=true;rw[aggOk_agg,←Array.all_toList,oneL_all _ h1,hs];simp)
theorem info_key:(Tryz.prog.info? 30).map (·.size)=some 37:=by kernel_rfl
theorem exec_load_rkey (ev:Operand→Value)(w:World)(dst:Option Tmp)(t:TypeId)(pos:String)(after:Array Edge)(g:Option (Nat×Bool))(x:Operand):(execOp ev ⟨dst,.load 38 x,t,pos,after,g⟩).run Tryz.prog w=ldRun Tryz.prog 38 w (ev x):=exec_load _ ev w dst t pos after g x _
theorem run_load_rkey (w:World)(b off:Nat)(hs:(partOf w b off 37).size=37):ldRun Tryz.prog 38 w (.pointer (some ⟨b,off,none⟩))=.ok (.value (.agg (partOf w b off 37))) w:=
 run_exec_load _ w none 0 "" #[] none _ _ 37 _ Tryz.underlying38 rfl (by kernel_rfl) (by decide) hs
theorem exec_store_rkey (ev:Operand→Value)(w:World)(dst:Option Tmp)(t:TypeId)(pos:String)(after:Array Edge)(g:Option (Nat×Bool))(x y:Operand):(execOp ev ⟨dst,.store 38 x y,t,pos,after,g⟩).run Tryz.prog w=stRun Tryz.prog 38 w (ev x) (ev y):=exec_store _ ev w dst t pos after g x y _
theorem run_store_rkey (w:World)(b:Nat)(cs:Array Value)(hx:rowFree w b 37=true)(hs:cs.size=37)(h1:oneL cs.toList=true):stRun Tryz.prog 38 w (.pointer (some ⟨b,0,none⟩)) (.agg cs)=.ok .skip (w.setRow b cs):=
 run_exec_store _ w none 0 "" #[] none _ _ _ 37 (by kernel_rfl) hx (by show aggOk _ (.agg cs)=true;rw[aggOk_agg,←Array.all_toList,oneL_all _ h1,hs];simp)
theorem info_rkey:(Tryz.prog.info? 38).map (·.size)=some 37:=by kernel_rfl
theorem exec_load_pkt (ev:Operand→Value)(w:World)(dst:Option Tmp)(t:TypeId)(pos:String)(after:Array Edge)(g:Option (Nat×Bool))(x:Operand):(execOp ev ⟨dst,.load 32 x,t,pos,after,g⟩).run Tryz.prog w=ldRun Tryz.prog 32 w (ev x):=exec_load _ ev w dst t pos after g x _
theorem run_load_pkt (w:World)(b off:Nat)(hs:(partOf w b off 40).size=40):ldRun Tryz.prog 32 w (.pointer (some ⟨b,off,none⟩))=.ok (.value (.agg (partOf w b off 40))) w:=
 run_exec_load _ w none 0 "" #[] none _ _ 40 _ Tryz.underlying32 rfl (by kernel_rfl) (by decide) hs
theorem exec_store_pkt (ev:Operand→Value)(w:World)(dst:Option Tmp)(t:TypeId)(pos:String)(after:Array Edge)(g:Option (Nat×Bool))(x y:Operand):(execOp ev ⟨dst,.store 32 x y,t,pos,after,g⟩).run Tryz.prog w=stRun Tryz.prog 32 w (ev x) (ev y):=exec_store _ ev w dst t pos after g x y _
theorem run_store_pkt (w:World)(b:Nat)(cs:Array Value)(hx:rowFree w b 40=true)(hs:cs.size=40)(h1:oneL cs.toList=true):stRun Tryz.prog 32 w (.pointer (some ⟨b,0,none⟩)) (.agg cs)=.ok .skip (w.setRow b cs):=
 run_exec_store _ w none 0 "" #[] none _ _ _ 40 (by kernel_rfl) hx (by show aggOk _ (.agg cs)=true;rw[aggOk_agg,←Array.all_toList,oneL_all _ h1,hs];simp)
theorem info_pkt:(Tryz.prog.info? 32).map (·.size)=some 40:=by kernel_rfl
theorem exec_load_spc (ev:Operand→Value)(w:World)(dst:Option Tmp)(t:TypeId)(pos:String)(after:Array Edge)(g:Option (Nat×Bool))(x:Operand):(execOp ev ⟨dst,.load 47 x,t,pos,after,g⟩).run Tryz.prog w=ldRun Tryz.prog 47 w (ev x):=exec_load _ ev w dst t pos after g x _
theorem run_load_spc (w:World)(b off:Nat)(hs:(partOf w b off 39).size=39):ldRun Tryz.prog 47 w (.pointer (some ⟨b,off,none⟩))=.ok (.value (.agg (partOf w b off 39))) w:=
 run_exec_load _ w none 0 "" #[] none _ _ 39 _ Tryz.underlying47 rfl (by kernel_rfl) (by decide) hs
theorem exec_store_rspc (ev:Operand→Value)(w:World)(dst:Option Tmp)(t:TypeId)(pos:String)(after:Array Edge)(g:Option (Nat×Bool))(x y:Operand):(execOp ev ⟨dst,.store 52 x y,t,pos,after,g⟩).run Tryz.prog w=stRun Tryz.prog 52 w (ev x) (ev y):=exec_store _ ev w dst t pos after g x y _
theorem run_store_rspc (w:World)(b:Nat)(cs:Array Value)(hx:rowFree w b 39=true)(hs:cs.size=39)(h1:oneL cs.toList=true):stRun Tryz.prog 52 w (.pointer (some ⟨b,0,none⟩)) (.agg cs)=.ok .skip (w.setRow b cs):=
 run_exec_store _ w none 0 "" #[] none _ _ _ 39 (by kernel_rfl) hx (by show aggOk _ (.agg cs)=true;rw[aggOk_agg,←Array.all_toList,oneL_all _ h1,hs];simp)
theorem info_rspc:(Tryz.prog.info? 52).map (·.size)=some 39:=by kernel_rfl
theorem exec_store_out (ev:Operand→Value)(w:World)(dst:Option Tmp)(t:TypeId)(pos:String)(after:Array Edge)(g:Option (Nat×Bool))(x y:Operand):(execOp ev ⟨dst,.store 85 x y,t,pos,after,g⟩).run Tryz.prog w=stRun Tryz.prog 85 w (ev x) (ev y):=exec_store _ ev w dst t pos after g x y _
theorem run_store_out (w:World)(b:Nat)(cs:Array Value)(hx:rowFree w b 42=true)(hs:cs.size=42)(h1:oneL cs.toList=true):stRun Tryz.prog 85 w (.pointer (some ⟨b,0,none⟩)) (.agg cs)=.ok .skip (w.setRow b cs):=
 run_exec_store _ w none 0 "" #[] none _ _ _ 42 (by kernel_rfl) hx (by show aggOk _ (.agg cs)=true;rw[aggOk_agg,←Array.all_toList,oneL_all _ h1,hs];simp)
theorem info_out:(Tryz.prog.info? 85).map (·.size)=some 42:=by kernel_rfl
attribute [go_sem ↓] exec_load_ar4 exec_load_iph exec_store_iph exec_load_riph exec_load_seg exec_store_seg exec_load_rseg exec_store_rseg exec_load_key exec_store_key exec_load_rkey exec_store_rkey exec_load_pkt exec_store_pkt exec_load_spc exec_store_rspc exec_store_out
attribute [go_sem] run_load_ar4 run_load_iph run_store_iph run_load_riph run_load_seg run_store_seg run_load_rseg run_store_rseg run_load_key run_store_key run_load_rkey run_store_rkey run_load_pkt run_store_pkt run_load_spc run_store_rspc run_store_out
open Go.RowKit
theorem partOf_all {w:World}{b n:Nat}{cs:Array Value}{t:TypeId}{fr:Nat×Nat}(h:w.heap[b]? =some (.cells cs t fr))(hs:cs.size=n):partOf w b 0 n=cs:=by
 rw[partOf_row _ _ _ _ _ _ _ h,Nat.zero_add,←hs];simp
theorem setRow_row {w:World}{b:Nat}{old cs:Array Value}{t:TypeId}{fr:Nat×Nat}(h:w.heap[b]? =some (.cells old t fr)):(w.setRow b cs).heap[b]? =some (.cells cs t fr):=setRow_heap _ _ _ _ _ _ h
theorem setRow_below {B:Nat}{w:World}{b:Nat}(cs:Array Value)(h:B≤b):Below B w (w.setRow b cs):=⟨rfl,rfl,rfl,by simp,fun k hk=>setRow_other _ _ _ _ (by omega)⟩
theorem exec_load_pro (ev:Operand→Value)(w:World)(dst:Option Tmp)(t:TypeId)(pos:String)(after:Array Edge)(g:Option (Nat×Bool))(x:Operand):(execOp ev ⟨dst,.load 222 x,t,pos,after,g⟩).run Tryz.prog w=ldRun Tryz.prog 222 w (ev x):=exec_load _ ev w dst t pos after g x _
theorem run_load_pro (w:World)(b off:Nat)(hs:(partOf w b off 5).size=5):ldRun Tryz.prog 222 w (.pointer (some ⟨b,off,none⟩))=.ok (.value (.agg (partOf w b off 5))) w:=
 run_exec_load _ w none 0 "" #[] none _ _ 5 _ Tryz.underlying222 rfl (by kernel_rfl) (by decide) hs
theorem exec_store_pro (ev:Operand→Value)(w:World)(dst:Option Tmp)(t:TypeId)(pos:String)(after:Array Edge)(g:Option (Nat×Bool))(x y:Operand):(execOp ev ⟨dst,.store 222 x y,t,pos,after,g⟩).run Tryz.prog w=stRun Tryz.prog 222 w (ev x) (ev y):=exec_store _ ev w dst t pos after g x y _
theorem run_store_pro (w:World)(b:Nat)(cs:Array Value)(hx:rowFree w b 5=true)(hs:cs.size=5)(h1:oneL cs.toList=true):stRun Tryz.prog 222 w (.pointer (some ⟨b,0,none⟩)) (.agg cs)=.ok .skip (w.setRow b cs):=
 run_exec_store _ w none 0 "" #[] none _ _ _ 5 (by kernel_rfl) hx (by show aggOk _ (.agg cs)=true;rw[aggOk_agg,←Array.all_toList,oneL_all _ h1,hs];simp)
attribute [go_sem ↓] exec_load_pro exec_store_pro
attribute [go_sem] run_load_pro run_store_pro
theorem do_store_pro (ev:Operand→Value)(w:World){dst:Option Tmp}{t:TypeId}{pos:String}{after:Array Edge}{g:Option (Nat×Bool)}{x y:Operand}(b:Nat)(cs:Array Value)(hx:ev x=.pointer (some ⟨b,0,none⟩))(hy:ev y=.agg cs)(hr:rowFree w b 5=true)(hs:cs.size=5)(h1:oneL cs.toList=true):(execOp ev ⟨dst,.store 222 x y,t,pos,after,g⟩).run Tryz.prog w=.ok .skip (w.setRow b cs):=by
 rw[exec_store_pro,hx,hy];exact run_store_pro w b cs hr hs h1
theorem do_store_seg (ev:Operand→Value)(w:World){dst:Option Tmp}{t:TypeId}{pos:String}{after:Array Edge}{g:Option (Nat×Bool)}{x y:Operand}(b:Nat)(cs:Array Value)(hx:ev x=.pointer (some ⟨b,0,none⟩))(hy:ev y=.agg cs)(hr:rowFree w b 12=true)(hs:cs.size=12)(h1:oneL cs.toList=true):(execOp ev ⟨dst,.store 149 x y,t,pos,after,g⟩).run Tryz.prog w=.ok .skip (w.setRow b cs):=by
 rw[exec_store_seg,hx,hy];exact run_store_seg w b cs hr hs h1
theorem do_load_seg (ev:Operand→Value)(w:World){dst:Option Tmp}{t:TypeId}{pos:String}{after:Array Edge}{g:Option (Nat×Bool)}{x:Operand}(b:Nat)(cs:Array Value)(hx:ev x=.pointer (some ⟨b,0,none⟩))(hp:partOf w b 0 12=cs)(hs:cs.size=12):(execOp ev ⟨dst,.load 149 x,t,pos,after,g⟩).run Tryz.prog w=.ok (.value (.agg cs)) w:=by
 rw[exec_load_seg,hx,run_load_seg w b 0 (by rw[hp,hs]),hp]
open Go.RowKit Bits
theorem docskey_any (s:Bool)(S:Nat→Int)(t:Bool)(T:Nat→Int)(p a b:Int)(w:World):
 Calls Tryz.prog 21 #[.agg (kyC s S t T p a b)] w (RetAt w (.agg (kyC s S t T p a b))):=by
 have HD1:=Lib.hid (fun w=>docsaddr_any s S w)
 have HD2:=Lib.hid (fun w=>docsaddr_any t T w)
 unfold kyC adV at*
 go_enter Tryz.func21,Tryz.ntmps21
 go_wp2_with fail
 refine wp_region_tail 13 (by kernel_rfl) (by kernel_rfl) ?_
 simp only[List.take_succ_cons,List.take_zero,List.drop_succ_cons,List.drop_zero]
 repeat go_big_quiet_step ((go_at_call 56;first|exact later_call (HD1.out _)|exact later_call (HD2.out _)))
 refine wpQuiet_nil ?_
 intro x
 have HP:x.world.heap[w.heap.size+1]? =some (.cells (kyC false (fun _=>0) false (fun _=>0) 0 0 0) 38 (0,0)):=(x.below.block _ (by simp)).trans (heap_alloc2_new w (.cells (kyC s S t T p a b) 30) (.cells (kyC false (fun _=>0) false (fun _=>0) 0 0 0) 38))
 have hrr:rowFree x.world (w.heap.size+1) 37=true:=by rw[rowFree_row _ _ _ _ _ HP];rfl
 have HPh:=Lib.hid HP
 have HB1:=Lib.hid (show Below w.heap.size w x.world from Below.lat (Below.all (Below.all (Below.refl _ _) _) _))
 clear HP
 go_wp2_with fail
 exact bodyPost_ret (v:=.agg (kyC s S t T p a b)) (results_part1 rfl _ _ (w.heap.size+1) 37 _ Tryz.underlying38 rfl info_rkey rfl _ (partOf_set2 HPh.out) rfl) rfl (.mk rfl (below_setRow HB1.out (by omega) _))
theorem docsspec_any (s:Bool)(S:Nat→Int)(t:Bool)(T:Nat→Int)(p a b f n:Int)(w:World):
 Calls Tryz.prog 17 #[.agg #[.bool s,.int .u8 (S 0),.int .u8 (S 1),.int .u8 (S 2),.int .u8 (S 3),.int .u8 (S 4),.int .u8 (S 5),.int .u8 (S 6),.int .u8 (S 7),.int .u8 (S 8),.int .u8 (S 9),.int .u8 (S 10),.int .u8 (S 11),.int .u8 (S 12),.int .u8 (S 13),.int .u8 (S 14),.int .u8 (S 15),.bool t,.int .u8 (T 0),.int .u8 (T 1),.int .u8 (T 2),.int .u8 (T 3),.int .u8 (T 4),.int .u8 (T 5),.int .u8 (T 6),.int .u8 (T 7),.int .u8 (T 8),.int .u8 (T 9),.int .u8 (T 10),.int .u8 (T 11),.int .u8 (T 12),.int .u8 (T 13),.int .u8 (T 14),.int .u8 (T 15),.int .u8 p,.int .u16 a,.int .u16 b,.int .u8 f,.int .i64 n]] w (RetAt w (.agg #[.bool s,.int .u8 (S 0),.int .u8 (S 1),.int .u8 (S 2),.int .u8 (S 3),.int .u8 (S 4),.int .u8 (S 5),.int .u8 (S 6),.int .u8 (S 7),.int .u8 (S 8),.int .u8 (S 9),.int .u8 (S 10),.int .u8 (S 11),.int .u8 (S 12),.int .u8 (S 13),.int .u8 (S 14),.int .u8 (S 15),.bool t,.int .u8 (T 0),.int .u8 (T 1),.int .u8 (T 2),.int .u8 (T 3),.int .u8 (T 4),.int .u8 (T 5),.int .u8 (T 6),.int .u8 (T 7),.int .u8 (T 8),.int .u8 (T 9),.int .u8 (T 10),.int .u8 (T 11),.int .u8 (T 12),.int .u8 (T 13),.int .u8 (T 14),.int .u8 (T 15),.int .u8 p,.int .u16 a,.int .u16 b,.int .u8 f,.int .i64 n])):=by
 have HD:=Lib.hid (fun w=>docskey_any s S t T p a b w)
 unfold kyC at*
 go_enter Tryz.func17,Tryz.ntmps17
 go_wp2_with fail
 refine wp_region_tail 8 (by kernel_rfl) (by kernel_rfl) ?_
 simp only[List.take_succ_cons,List.take_zero,List.drop_succ_cons,List.drop_zero]
 repeat go_big_quiet_step ((go_at_call 21;exact later_call (HD.out _)))
 refine wpQuiet_nil ?_
 intro x
 have HP:x.world.heap[w.heap.size+1]? =some (.cells #[.bool false,.int .u8 0,.int .u8 0,.int .u8 0,.int .u8 0,.int .u8 0,.int .u8 0,.int .u8 0,.int .u8 0,.int .u8 0,.int .u8 0,.int .u8 0,.int .u8 0,.int .u8 0,.int .u8 0,.int .u8 0,.int .u8 0,.bool false,.int .u8 0,.int .u8 0,.int .u8 0,.int .u8 0,.int .u8 0,.int .u8 0,.int .u8 0,.int .u8 0,.int .u8 0,.int .u8 0,.int .u8 0,.int .u8 0,.int .u8 0,.int .u8 0,.int .u8 0,.int .u8 0,.int .u8 0,.int .u16 0,.int .u16 0,.int .u8 0,.int .i64 0] 52 (0,0)):=(x.below.block _ (by simp)).trans (heap_alloc2_new w (.cells #[.bool s,.int .u8 (S 0),.int .u8 (S 1),.int .u8 (S 2),.int .u8 (S 3),.int .u8 (S 4),.int .u8 (S 5),.int .u8 (S 6),.int .u8 (S 7),.int .u8 (S 8),.int .u8 (S 9),.int .u8 (S 10),.int .u8 (S 11),.int .u8 (S 12),.int .u8 (S 13),.int .u8 (S 14),.int .u8 (S 15),.bool t,.int .u8 (T 0),.int .u8 (T 1),.int .u8 (T 2),.int .u8 (T 3),.int .u8 (T 4),.int .u8 (T 5),.int .u8 (T 6),.int .u8 (T 7),.int .u8 (T 8),.int .u8 (T 9),.int .u8 (T 10),.int .u8 (T 11),.int .u8 (T 12),.int .u8 (T 13),.int .u8 (T 14),.int .u8 (T 15),.int .u8 p,.int .u16 a,.int .u16 b,.int .u8 f,.int .i64 n] 47) (.cells #[.bool false,.int .u8 0,.int .u8 0,.int .u8 0,.int .u8 0,.int .u8 0,.int .u8 0,.int .u8 0,.int .u8 0,.int .u8 0,.int .u8 0,.int .u8 0,.int .u8 0,.int .u8 0,.int .u8 0,.int .u8 0,.int .u8 0,.bool false,.int .u8 0,.int .u8 0,.int .u8 0,.int .u8 0,.int .u8 0,.int .u8 0,.int .u8 0,.int .u8 0,.int .u8 0,.int .u8 0,.int .u8 0,.int .u8 0,.int .u8 0,.int .u8 0,.int .u8 0,.int .u8 0,.int .u8 0,.int .u16 0,.int .u16 0,.int .u8 0,.int .i64 0] 52))
 have hrr:rowFree x.world (w.heap.size+1) 39=true:=by rw[rowFree_row _ _ _ _ _ HP];rfl
 have HPh:=Lib.hid HP
 have HB1:=Lib.hid (show Below w.heap.size w x.world from Below.lat (Below.all (Below.all (Below.refl _ _) _) _))
 clear HP
 go_wp2_with fail
 exact bodyPost_ret (v:=.agg #[.bool s,.int .u8 (S 0),.int .u8 (S 1),.int .u8 (S 2),.int .u8 (S 3),.int .u8 (S 4),.int .u8 (S 5),.int .u8 (S 6),.int .u8 (S 7),.int .u8 (S 8),.int .u8 (S 9),.int .u8 (S 10),.int .u8 (S 11),.int .u8 (S 12),.int .u8 (S 13),.int .u8 (S 14),.int .u8 (S 15),.bool t,.int .u8 (T 0),.int .u8 (T 1),.int .u8 (T 2),.int .u8 (T 3),.int .u8 (T 4),.int .u8 (T 5),.int .u8 (T 6),.int .u8 (T 7),.int .u8 (T 8),.int .u8 (T 9),.int .u8 (T 10),.int .u8 (T 11),.int .u8 (T 12),.int .u8 (T 13),.int .u8 (T 14),.int .u8 (T 15),.int .u8 p,.int .u16 a,.int .u16 b,.int .u8 f,.int .i64 n]) (results_part1 rfl _ _ (w.heap.size+1) 39 _ Tryz.underlying52 rfl info_rspc rfl _ (partOf_set2 HPh.out) rfl) rfl (.mk rfl (below_setRow HB1.out (by omega) _))
end
end Go.Proofs.YtkgjbipfhhjlpaaGreatDoor
