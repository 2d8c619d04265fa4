import Derived.Test.YtkgjbipfhhjlpaaGreatDoorMk5
import Derived.StillTailTactics
set_option linter.unusedVariables false
set_option linter.unusedSimpArgs false
set_option maxRecDepth 100000
set_option maxHeartbeats 32000000
namespace Go.Proofs.YtkgjbipfhhjlpaaGreatDoor
section
open Go.RowKit
theorem cutsL_last (c:UInt8)(l:List UInt8):∃I last,cutsL c l=I++[last]:=
 ⟨(cutsL c l).dropLast,(cutsL c l).getLast (cutsL_ne c l),(List.dropLast_concat_getLast (cutsL_ne c l)).symm⟩
theorem cutsL_snoc (c x:UInt8):∀(l:List UInt8) (I:List (List UInt8)) (last:List UInt8),cutsL c l=I++[last]→cutsL c (l++[x])=if x=c then I++[last]++[[]] else I++[last++[x]]
 |[],I,last,h=>by
  have hI:I=[]∧last=[]:=by
   cases I with
   |nil=>simpa[cutsL] using h.symm
   |cons a t=>simp[cutsL] at h
  obtain⟨rfl,rfl⟩:=hI
  rw[List.nil_append,cutsL]
  split
  ·simp[cutsL]
  ·simp[cutsL]
 |y::l,I,last,h=>by
  rw[List.cons_append,cutsL]
  rw[cutsL] at h
  by_cases hy:y=c
  ·rw[if_pos hy] at h⊢
   cases I with
   |nil=>
    simp only[List.nil_append,List.cons.injEq] at h
    exact absurd h.2 (cutsL_ne c l)
   |cons a t=>
    simp only[List.cons_append,List.cons.injEq] at h
    rw[cutsL_snoc c x l t last h.2,←h.1]
    split<;>rfl
  ·rw[if_neg hy] at h⊢
   cases hl:cutsL c l with
   |nil=>exact absurd hl (cutsL_ne c l)
   |cons hd tl=>
    rw[hl] at h
    simp only at h
    cases I with
    |nil=>
     simp only[List.nil_append,List.cons.injEq] at h
     obtain⟨rfl,rfl⟩:=h
     rw[cutsL_snoc c x l [] hd hl]
     by_cases hx:x=c<;>simp[hx]
    |cons a t=>
     simp only[List.cons_append,List.cons.injEq] at h
     obtain⟨rfl,rfl⟩:=h
     rw[cutsL_snoc c x l (hd::t) last (by rw[hl];rfl)]
     by_cases hx:x=c<;>simp[hx]
theorem cutsL_len (c:UInt8):∀(l:List UInt8),∀p∈cutsL c l,p.length≤l.length
 |[],p,h=>by simp[cutsL] at h;simp[h]
 |x::r,p,h=>by
  rw[cutsL] at h
  split at h
  ·rcases List.mem_cons.1 h with rfl|h
   ·simp
   ·have:=cutsL_len c r p h;simp;omega
  ·cases hr:cutsL c r with
   |nil=>rw[hr] at h;simp only[List.mem_singleton] at h;subst h;simp
   |cons hd tl=>
    rw[hr] at h
    simp only at h
    have ih:=cutsL_len c r
    rw[hr] at ih
    rcases List.mem_cons.1 h with rfl|h
    ·have:=ih hd (List.mem_cons_self ..);simp;omega
    ·have:=ih p (List.mem_cons_of_mem _ h);simp;omega
theorem cutsL_count (c:UInt8):∀(l:List UInt8),(cutsL c l).length≤l.length+1
 |[]=>by simp[cutsL]
 |x::r=>by
  have ih:=cutsL_count c r
  rw[cutsL]
  split
  ·simp only[List.length_cons];omega
  ·cases hr:cutsL c r with
   |nil=>simp
   |cons hd tl=>rw[hr] at ih;simp only[List.length_cons] at ih⊢;omega
def strV (l:List UInt8):Value:=.string ⟨l.toArray⟩
def NewStrings (w:World)(L:List (List UInt8)):Ending→World→Prop:=fun e w'=>
 ∃oa cap,e=.returned (.slice oa L.length cap)∧Owns w' w.heap.size 1 oa L.length cap (L.map strV)∧Below w.heap.size w w'
theorem slice_one (s:ByteArray)(k:Nat)(h:k<s.size)(w:World):(Instr.slice 9 (.string s) (some (.int .i64 (k:Int))) (some (.int .i64 ((k:Int)+1))) none).run Tryz.prog w=.ok (.string ⟨[s[k]].toArray⟩) w:=by
 have e:s.extract k (k+1)=⟨[s[k]].toArray⟩:=by
  apply WideShapes.bytes_inj
  rw[Lib.extract_data]
  have:=drop_cons8 s k h
  rw[show k+1-k=1 by omega,this]
  rfl
 rw[run_slice_string w 9 s .i64 .i64 (k:Int) ((k:Int)+1) Tryz.underlying9 (by omega) (by omega) (by omega)]
 rw[show((k:Int)+1).toNat=k+1 by omega,Int.toNat_natCast,e]
theorem info_str:(Tryz.prog.info? 9).map (fun i=>(i.zero,i.size,i.bytes))=some (some (.string ⟨#[]⟩),1,16):=by kernel_rfl
theorem cuts_any (s:ByteArray)(c:UInt8)(w:World)(hs:s.size≤1000):Calls Tryz.prog 60 #[.string s,.int .u8 (c.toNat:Int)] w (NewStrings w (cutsL c s.data.toList)):=by
 go_enter Tryz.func60,Tryz.ntmps60
 go_wp2_with fail
 go_loopw [5,6] (fun u5 u6 wr=>∃(k:Nat) (oa:Option Addr) (n cap:Nat) (L:List (List UInt8)),k≤s.size∧u6=.int .i64 k∧u5=.slice oa n cap∧Hid (n=L.length)∧Hid (cutsL c (s.data.toList.take k)=L)∧Hid (Owns wr w.heap.size 1 oa n cap (L.map strV))∧Hid (Below w.heap.size w wr)) (fun _ u6 _=>(s.size:Int)-intOf u6 |>.toNat)
 case atStart=>
  exact⟨0,_,1,1,[[]],Nat.zero_le _,rfl,rfl,Lib.hid rfl,Lib.hid rfl,Lib.hid (Owns.made _ 1 1 _ _ (Nat.le_refl _) (Nat.le_refl 1) (Nat.le_refl 1) (by decide) rfl),Lib.hid ((Below.refl _ _).alloc (Nat.le_refl _) _)⟩
 case round=>
  obtain⟨k,oa,n,cap,L,hk,rfl,rfl,HNL,HL,HO,HB⟩:=hrel
  by_cases hlt:k<s.size
  ·have hts:=take_snoc8 s k hlt
   obtain⟨I,last,hI⟩:=cutsL_last c (s.data.toList.take k)
   have hsn:=cutsL_snoc c s[k] _ I last hI
   rw[←hts] at hsn
   have hLI:L=I++[last]:=HL.out.symm.trans hI
   have HSN:=Lib.hid hsn
   have HLI:=Lib.hid hLI
   have hn:n=I.length+1:=by rw[HNL.out,hLI];simp
   have hlen:last.length≤1000:=by
    have:=cutsL_len c (s.data.toList.take k) last (by rw[hI];simp)
    rw[List.length_take] at this;omega
   have hcnt:n≤1001:=by
    have:=cutsL_count c (s.data.toList.take k)
    rw[HL.out,←HNL.out,List.length_take] at this;omega
   have HN:=Lib.hid hn
   clear hsn hLI hts hI hn
   have hix:=index_byte s k hlt _ rfl
   by_cases hx:s[k]=c
   ·have heq:((s[k].toNat:Int)==(c.toNat:Int))=true:=by rw[hx];simp
    go_wp2_with (at_builtin;refine Stopped.of ?_)
    refine Stopped.mk ?_
    have hb:=HB.out
    refine wpList_append_owns _ rfl _ _ 76 rfl 9 (.string ⟨#[]⟩) 1 16 w.heap.size Tryz.underlying76 info_str rfl (by decide) oa n cap _ rfl (HO.out.alloc _) ⟨wr.heap.size,0,none⟩ 1 1 [.string ⟨#[]⟩] rfl rfl ?_ ?_ (by decide) ?_ ?_ ?_ ?_
    ·exact news_new _ _ _
    ·simp[Value.oneCell']
    ·unfold maxLen;omega
    ·omega
    ·simp only[World.size_alloc];have:=hb.size;omega
    intro oa' cap' w' ho' hg hd
    have hb2:Below w.heap.size w w':=Below.appended (hb.alloc hb.size _) (HO.out.alloc _) (Nat.le_refl _) hg (by simp only[World.size_alloc];have:=hb.size;omega)
    have HL2:Hid (cutsL c (s.data.toList.take (k+1))=L++[[]]):=Lib.hid (by rw[HSN.out,if_pos hx,HLI.out])
    clear hg hd hb
    go_wp2_with fail
    go_roundw
    case rel=>
     refine⟨k+1,oa',n+1,cap',L++[[]],by omega,by go_num,by first|rfl|(congr 1),Lib.hid (by rw[List.length_append,HNL.out];rfl),HL2,Lib.hid ?_,Lib.hid hb2⟩
     rw[List.map_append];exact ho'
    case measure=>simp[intOf];omega
   ·obtain rfl:=HN.out
    obtain⟨g,off,rfl,hbg,hg,hc,ht⟩:=HO.out.here (by omega)
    have hcl:=hc I.length (strV last) (by rw[HLI.out,List.map_append,List.getElem?_append_right (by simp)];simp)
    have hfz:=(ht I.length (by have:=HO.out.le;omega)).2
    have hle:=HO.out.le
    unfold strV at hcl
    obtain⟨X,hX⟩:∃X,[s[k]]=X:=⟨_,rfl⟩
    have hXl:X.length=1:=by rw[←hX];rfl
    have hcat:=concat_small last X (by omega) (by omega)
    have HL3:Hid (last.length+X.length≤9223372036854775807):=Lib.hid (by omega)
    have hsl:=slice_one s k hlt
    rw[hX] at hsl
    have HX:=Lib.hid hX
    clear hX hXl
    have heq:((s[k].toNat:Int)==(c.toNat:Int))=false:=by
     have:s[k].toNat≠c.toNat:=fun e=>hx (UInt8.toNat_inj.1 e)
     simp;omega
    clear hc ht
    generalize s[k]=x at*
    go_wp2_with fail
    have hIl:I.length≤1000:=by omega
    have hwr:IntKind.i64.wrap (I.length:Int)=(I.length:Int):=IntWalk.i64_in _ (by omega)
    have hi0:(0:Int)≤(I.length:Int):=by omega
    have hi1:(I.length:Int)<(I.length:Int)+1:=by omega
    clear hlen hcnt
    have hl3:=HL3.out
    go_region
    have hval:(Value.string ((⟨last.toArray⟩:ByteArray)++⟨X.toArray⟩))=strV (last++[x]):=by rw[bytes_append,←HX.out];rfl
    rw[hval]
    have HVV:=Lib.hid hval
    have HL2:Hid (cutsL c (s.data.toList.take (k+1))=I++[last++[x]]):=Lib.hid (by rw[HSN.out,if_neg hx])
    have HO2:Hid (Owns (wr.setCell ⟨g,off+I.length,none⟩ (strV (last++[x]))).drew w.heap.size 1 (some ⟨g,off,none⟩) (I.length+1) cap ((I++[last++[x]]).map strV)):=Lib.hid (by
     have h:=(HO.out.set I.length (by omega) (strV (last++[x]))).drew
     have e:(L.map strV).set I.length (strV (last++[x]))=(I++[last++[x]]).map strV:=by
      rw[HLI.out,List.map_append,List.map_append,List.set_append_right _ _ (by simp)]
      simp
     rwa [e] at h)
    have HB2:Hid (Below w.heap.size w (wr.setCell ⟨g,off+I.length,none⟩ (strV (last++[x]))).drew):=Lib.hid ((HB.out.setCell (by simp only;exact hbg) _).drew)
    clear hval hcl hcat hsl
    generalize (wr.setCell ⟨g,off+I.length,none⟩ (strV (last++[x]))).drew=wz at*
    go_wp2_with fail
    go_roundw
    case rel=>exact⟨k+1,some ⟨g,off,none⟩,I.length+1,cap,I++[last++[x]],by omega,by go_num,rfl,Lib.hid (by simp),HL2,HO2,HB2⟩
    case measure=>simp[intOf];omega
  ·obtain rfl:k=s.size:=by omega
   have HF:Hid (s.data.toList.take s.size=s.data.toList):=Lib.hid (List.take_of_length_le (by rw[Array.length_toList,ByteArray.size_data];exact Nat.le_refl _))
   go_wp2_with fail
   go_ret
   have hl:=HL.out
   rw[HF.out] at hl
   obtain rfl:=HNL.out
   rw[hl]
   exact⟨oa,cap,rfl,HO.out,HB.out⟩
theorem mapM_snoc {α β:Type}(f:α→Option β)(l:List α)(x:α)(a:List β)(b:β)(h:l.mapM f=some a)(hx:f x=some b):(l++[x]).mapM f=some (a++[b]):=by
 simp[List.mapM_append,List.mapM_cons,h,hx]
theorem mapM_miss {α β:Type}(f:α→Option β)(l:List α)(k:Nat)(hk:k<l.length)(hx:f l[k]=none):l.mapM f=none:=by
 cases h:l.mapM f with
 |none=>rfl
 |some a=>
  exfalso
  have e:l=l.take k++l[k]::l.drop (k+1):=by rw[←List.drop_eq_getElem_cons hk,List.take_append_drop]
  rw[e,List.mapM_append,List.mapM_cons,hx] at h
  cases h2:(l.take k).mapM f<;>simp[h2] at h
theorem mapM_len {α β:Type}(f:α→Option β):∀(l:List α) (a:List β),l.mapM f=some a→a.length=l.length
 |[],a,h=>by simp at h;subst h;rfl
 |x::l,a,h=>by
  rw[List.mapM_cons] at h
  cases hx:f x with
  |none=>rw[hx] at h;simp at h
  |some b=>
   cases hl:l.mapM f with
   |none=>rw[hx,hl] at h;simp at h
   |some c=>rw[hx,hl] at h;simp at h;subst h;simp[mapM_len f l c hl]
def GroupsPost (w:World)(o:Option (List Nat)):Ending→World→Prop:=fun e w'=>
 (o=none∧e=.returned (.tuple #[.slice none 0 0,.bool false])∧Below w.heap.size w w')∨
 (∃L oa cap,o=some L∧e=.returned (.tuple #[.slice oa L.length cap,.bool true])∧Owns w' w.heap.size 1 oa L.length cap (L.map fun(n:Nat)=>Value.int .i64 (n:Int))∧Below w.heap.size w w')
theorem info_i64:(Tryz.prog.info? 3).map (fun i=>(i.zero,i.size,i.bytes))=some (some (.int .i64 0),1,8):=by kernel_rfl
theorem groups_any (s:ByteArray)(w:World)(hs:s.size≤1000):Calls Tryz.prog 175 #[.string s] w (GroupsPost w (groupsL s.data.toList)):=by
 by_cases he:s=⟨#[]⟩
 ·subst he
  go_enter Tryz.func175,Tryz.ntmps175
  go_wp2_with fail
  go_ret2
  exact .inr ⟨[],none,0,rfl,rfl,Owns.nil _ _ _,Below.refl _ _⟩
 ·have hne:s.data.toList≠[]:=fun e=>he (by cases s;rename_i d;cases d;simp only at e;subst e;rfl)
  have hgl:groupsL s.data.toList=(cutsL 58 s.data.toList).mapM hexG:=by rw[groupsL,if_neg hne]
  have HGL:=Lib.hid hgl
  have hls:s.data.toList.length=s.size:=by rw[Array.length_toList,ByteArray.size_data]
  have HPL:Hid (∀p∈cutsL 58 s.data.toList,p.length≤1000):=Lib.hid (fun p hp=>by have:=cutsL_len 58 _ p hp;omega)
  have HPC:Hid ((cutsL 58 s.data.toList).length≤1001):=Lib.hid (by have:=cutsL_count 58 s.data.toList;omega)
  have HCA:=Lib.hid (fun w=>cuts_any s 58 w hs)
  have heq:s.toList.isEmpty=false:=by rw[toList_data8];cases h:s.data.toList with
   |nil=>exact absurd h hne
   |cons a t=>rfl
  clear he hgl hls hs
  generalize cutsL 58 s.data.toList=P at*
  go_enter Tryz.func175,Tryz.ntmps175
  go_wp2_with fail
  refine Calls.mono (HCA.out w) ?_
  rintro e w1 ⟨op,capp,rfl,HO,HB⟩
  have hpc:=HPC.out
  generalize hnP:P.length=nP at*
  have HNP:=Lib.hid hnP
  clear hnP
  have HO:=Lib.hid HO
  have HB:=Lib.hid HB
  go_wp2_with fail
  go_loopw [4,6] (fun u4 u6 wr=>∃(k:Nat) (oa:Option Addr) (cap:Nat) (G:List Nat),k≤nP∧u6=.int .i64 k∧u4=.slice oa k cap∧Hid (G.length=k)∧Hid ((P.take k).mapM hexG=some G)∧Hid (Owns wr w1.heap.size 1 oa k cap (G.map fun(n:Nat)=>Value.int .i64 (n:Int)))∧Hid (Below w1.heap.size w1 wr)) (fun _ u6 _=>(nP:Int)-intOf u6 |>.toNat)
  case atStart=>
   exact⟨0,none,0,[],Nat.zero_le _,rfl,rfl,Lib.hid rfl,Lib.hid rfl,Lib.hid (Owns.nil _ _ _),Lib.hid (Below.refl _ _)⟩
  case round=>
   obtain⟨k,oa,cap,G,hk,rfl,rfl,HGn,HG,HR,HW⟩:=hrel
   have HOr:=HO.out.below HW.out
   by_cases hlt:k<nP
   ·have hkP:k<P.length:=by rw[HNP.out];exact hlt
    obtain⟨g,off,hop,hbg,hg,hc,ht⟩:=HOr.here (by omega)
    subst hop
    have hcl:=hc k (strV P[k]) (by simp[hkP])
    have hpl:=HPL.out P[k] (List.getElem_mem hkP)
    have hts:P.take (k+1)=P.take k++[P[k]]:=by rw[List.take_succ_eq_append_getElem hkP]
    have HTS:=Lib.hid hts
    have HMI:=Lib.hid (fun h=>mapM_miss hexG P k hkP h)
    clear hts hc ht
    unfold strV at hcl
    generalize P[k]=p at*
    have hsz:(⟨p.toArray⟩:ByteArray).size=p.length:=by simp[ByteArray.size]
    have HNU:=Lib.hid (fun w=>number_any ⟨p.toArray⟩ 16 65536 w (by rw[hsz];exact hpl) (by decide) (by decide) (by decide))
    have hpe:((⟨p.toArray⟩:ByteArray).data.toList)=p:=by simp
    rw[hpe] at HNU
    cases hn:numberL 16 65536 p with
    |none=>
     rw[hn] at HNU
     have hx:hexG p=none:=by unfold hexG;split<;>simp[hn]
     have HX:=Lib.hid (HMI.out hx)
     clear hn hx
     go_wp2_with fail
     refine Calls.mono (HNU.out wr) ?_
     rintro e w2 ⟨rfl,hb2⟩
     simp only[numV]
     go_wp2_with fail
     go_ret2
     refine .inl ⟨?_,rfl,Below.via HB.out (Below.via HW.out hb2)⟩
     rw[HGL.out,HX.out]
    |some n=>
     rw[hn] at HNU
     by_cases h4:p.length≤4
     ·have hx:hexG p=some n:=by unfold hexG;rw[if_pos h4,hn]
      have HX:Hid ((P.take (k+1)).mapM hexG=some (G++[n])):=Lib.hid (by rw[HTS.out];exact mapM_snoc _ _ _ _ _ HG.out hx)
      clear hn hx
      go_wp2_with fail
      refine Calls.mono (HNU.out wr) ?_
      rintro e w2 ⟨rfl,hb2⟩
      simp only[numV]
      have hcl2:=hb2.cell (p:=⟨g,off+k,none⟩) (by first|omega|exact hg)
      have HR2:=Lib.hid (HR.out.below hb2)
      have hle:w1.heap.size≤w2.heap.size:=Nat.le_trans HW.out.size hb2.size
      have HLE:=Lib.hid hle
      clear hle
      have HW2:=Lib.hid (Below.via HW.out hb2)
      go_wp2_with (at_builtin;refine Stopped.of ?_)
      refine Stopped.mk ?_
      refine wpList_append_owns _ rfl _ _ 275 rfl 3 (.int .i64 0) 1 8 w1.heap.size Tryz.underlying275 info_i64 rfl (by decide) oa k cap _ rfl (HR2.out.alloc _) ⟨w2.heap.size,0,none⟩ 1 1 [.int .i64 n] rfl rfl ?_ ?_ (by decide) ?_ ?_ ?_ ?_
      ·exact news_new _ _ _
      ·simp[Value.oneCell']
      ·have:=HPC.out;unfold maxLen;omega
      ·have:=HPC.out;omega
      ·simp only[World.size_alloc];have:=HLE.out;omega
      intro oa' cap' w' ho' hg2 hd
      have hb3:Below w1.heap.size w1 w':=Below.appended (HW2.out.alloc HLE.out _) (HR2.out.alloc _) (Nat.le_refl _) hg2 (by simp only[World.size_alloc];have:=HLE.out;omega)
      have HB3:=Lib.hid hb3
      clear hg2 hd hb3
      go_wp2_with fail
      go_roundw
      case rel=>
       refine⟨k+1,oa',cap',G++[n],by omega,by go_num,rfl,Lib.hid (by rw[List.length_append,HGn.out];rfl),HX,Lib.hid ?_,HB3⟩
       rw[List.map_append];exact ho'
      case measure=>simp[intOf];omega
     ·have hx:hexG p=none:=by unfold hexG;rw[if_neg h4]
      have HX:=Lib.hid (HMI.out hx)
      clear hn hx
      go_wp2_with fail
      refine Calls.mono (HNU.out wr) ?_
      rintro e w2 ⟨rfl,hb2⟩
      simp only[numV]
      have hcl2:=hb2.cell (p:=⟨g,off+k,none⟩) (by first|omega|exact hg)
      go_wp2_with fail
      go_ret2
      refine .inl ⟨?_,rfl,Below.via HB.out (Below.via HW.out hb2)⟩
      rw[HGL.out,HX.out]
   ·obtain rfl:k=nP:=by omega
    have HF:Hid (P.take k=P):=Lib.hid (by rw[List.take_of_length_le (by rw[HNP.out];exact Nat.le_refl _)])
    go_wp2_with fail
    go_ret2
    obtain rfl:=HGn.out
    exact .inr ⟨G,oa,cap,by rw[HGL.out,←HF.out];exact HG.out,rfl,HR.out.mono HB.out.size,Below.via HB.out HW.out⟩
def badNum:Lib.NumEnd Nat:=Lib.parseUintB 64 []
theorem badNum_match:(match badNum with| .ok n=>some n|_=>none:Option Nat)=none:=rfl
theorem badNum_ok (n:Nat):badNum≠ .ok n:=fun h=>by
 have h2:(match badNum with| .ok n=>some n|_=>none:Option Nat)=some n:=by rw[h]
 rw[badNum_match] at h2
 cases h2
def hexEnd (acc:Nat):List UInt8→Lib.NumEnd Nat
 |[]=>.ok acc
 |c::r=>if 16≤digitN c then badNum else if 65535<acc*16+digitN c then .range else hexEnd (acc*16+digitN c) r
theorem hexEnd_numL:∀(l:List UInt8) (acc:Nat),numL 16 65536 acc l=match hexEnd acc l with| .ok n=>some n|_=>none
 |[],acc=>rfl
 |c::r,acc=>by
  rw[numL,hexEnd]
  by_cases h1:16≤digitN c
  ·rw[if_pos (.inl h1),if_pos h1];rfl
  ·by_cases h2:65535<acc*16+digitN c
   ·rw[if_pos (.inr (by omega)),if_neg h1,if_pos h2]
   ·rw[if_neg (by omega),if_neg h1,if_neg h2,hexEnd_numL r]
theorem low_up:∀n:Nat,n<256→65≤n→n≤70→bits .or .u8 (n:Int) 32=(n:Int)+32:=by decide+kernel
theorem low_low:∀n:Nat,n<256→97≤n→n≤102→bits .or .u8 (n:Int) 32=(n:Int):=by decide+kernel
theorem low_other:∀n:Nat,n<256→¬(65≤n∧n≤70)→¬(97≤n∧n≤102)→bits .or .u8 (n:Int) 32<97∨103≤bits .or .u8 (n:Int) 32:=by decide+kernel
theorem parse16_in (t:ByteArray)(hne:t.size≠0)(hmax:t.size≤1000)(w:World):
 Calls Tryz.prog 118 #[.string t,.int .i64 16,.int .i64 16] w fun e w'=>e=.returned (Lib.uintTupleM 264 65535 (hexEnd 0 t.data.toList))∧w'=Lib.bytesWorld w 5 t:=by
 have hemp:t.toList.isEmpty=false:=by
  rw[←decide_eq_emptyBytes]
  exact decide_eq_false (fun h=>hne (by rw[h];rfl))
 have hcv:=Lib.run_convert_string_bytes (P:=Tryz.prog) w 9 22 5 t (u:=.string) Tryz.underlying9 Tryz.underlying22 Tryz.underlying5
 have hB:∀j,j<t.size→(Lib.bytesWorld w 5 t).cell? ⟨w.heap.size,j,none⟩=some (.int .u8 (t.data.toList.getD j 0).toNat):=fun j hj=>Lib.bytesWorld_cell w 5 t j hj
 obtain⟨W1,hW1⟩:∃W1,W1=Lib.bytesWorld w 5 t:=⟨_,rfl⟩
 rw[←hW1] at hcv hB⊢
 clear hW1
 obtain⟨bs,hL⟩:∃bs,bs=t.data.toList:=⟨_,rfl⟩
 have hLn:bs.length=t.size:=by rw[hL,Lib.size_eq]
 rw[←hL] at hB⊢
 clear hL
 have hmv:IntKind.u64.wrap (IntKind.u64.wrap 65536-1)=65535:=by
  rw[IntKind.wrap_u64,IntKind.wrap_u64]
  decide
 go_enter Tryz.func118,Tryz.ntmps118
 go_wp2_with fail
 go_loopw [12,13,101] (fun vu vn vi wr=>∃(k acc:Nat) (a:Int),vu=.bool false∧vn=.int .u64 a∧vi=.int .i64 k∧k≤t.size∧Hid (a=(acc:Int)∧acc≤65535∧hexEnd 0 bs=hexEnd acc (bs.drop k))∧wr=W1)
  (fun _ _ vi _=>t.size-(intOf vi).toNat)
 case atStart=>exact⟨0,0,0,rfl,rfl,rfl,by omega,⟨rfl,by omega,rfl⟩,rfl⟩
 case round=>
  obtain⟨k,acc,a,rfl,rfl,rfl,hk,hh,rfl⟩:=hrel
  obtain⟨ha,hacc,hdec⟩:=hh.out
  clear hh
  have a0:0≤a:=by omega
  have a1:a≤65535:=by omega
  by_cases hkn:k<t.size
  ·have hc:=hB k hkn
   have hdrop:bs.drop k=bs[k]'(by omega)::bs.drop (k+1):=List.drop_eq_getElem_cons (by omega)
   have hget:bs.getD k 0=bs[k]'(by omega):=by simp[List.getD,List.getElem?_eq_getElem (show k<bs.length by omega)]
   rw[hdrop] at hdec
   rw[hget] at hc
   generalize bs[k]'(by omega)=c at hc hdec
   have hc256:c.toNat<256:=c.toNat_lt
   clear hB hdrop hget
   have hdN:digitN c=if 65≤c.toNat∧c.toNat≤70 then c.toNat-55 else if 97≤c.toNat∧c.toNat≤102 then c.toNat-87 else if 48≤c.toNat∧c.toNat≤57 then c.toNat-48 else 99:=rfl
   have hstep:∀d,digitN c=d→d<16→hexEnd 0 bs=if 65535<acc*16+d then .range else hexEnd (acc*16+d) (bs.drop (k+1)):=by
    intro d h1 h2
    rw[hdec,hexEnd,h1,if_neg (by omega)]
   have hsyn:16≤digitN c→hexEnd 0 bs=badNum:=by
    intro h1
    rw[hdec,hexEnd,if_pos h1]
   clear hdec
   have hlo:=low_other c.toNat hc256
   have hup:=low_up c.toNat hc256
   have hlw:=low_low c.toNat hc256
   by_cases hdig:48≤c.toNat∧c.toNat≤57
   ·obtain⟨hd0,hd1⟩:=hdig
    have hs:=hstep (c.toNat-48) (by rw[hdN,if_neg (by omega),if_neg (by omega),if_pos ⟨hd0,hd1⟩]) (by omega)
    clear hstep hsyn hdN hlo hup hlw
    by_cases hov:65535<acc*16+(c.toNat-48)
    ·rw[if_pos hov] at hs
     have iov:65535<a*16+((c.toNat:Int)-48):=by omega
     have HS:=Lib.hid hs
     clear hov ha hacc hs
     go_wp2_with fail
     go_ret2
     exact⟨by rw[HS.out];rfl,rfl⟩
    ·rw[if_neg hov] at hs
     have HN:Hid (a*16+((c.toNat:Int)-48)=((acc*16+(c.toNat-48):Nat):Int)∧acc*16+(c.toNat-48)≤65535∧hexEnd 0 bs=hexEnd (acc*16+(c.toNat-48)) (bs.drop (k+1))):=Lib.hid ⟨by omega,by omega,hs⟩
     have iov:a*16+((c.toNat:Int)-48)≤65535:=by omega
     clear hov ha hacc hs
     go_wp2_with fail
     go_roundw
     case rel=>exact⟨k+1,acc*16+(c.toNat-48),a*16+((c.toNat:Int)-48),rfl,(by first|rfl|(congr 1;omega)),(by first|rfl|(congr 1;omega)),by omega,HN,trivial⟩
     case measure=>simp[intOf];omega
   ·by_cases hU:65≤c.toNat∧c.toNat≤70
    ·obtain⟨hd0,hd1⟩:=hU
     have hs:=hstep (c.toNat-55) (by rw[hdN,if_pos ⟨hd0,hd1⟩]) (by omega)
     have hv:=hup hd0 hd1
     have hlc:∀w,Calls Tryz.prog 166 #[.int .u8 (c.toNat:Int)] w fun e w'=>e=.returned (.int .u8 ((c.toNat:Int)+32))∧w'=w:=fun w=>by rw[←hv];exact Tryz.internal_strconv_lower _ _
     clear hstep hsyn hdN hlo hup hlw hdig hv
     by_cases hov:65535<acc*16+(c.toNat-55)
     ·rw[if_pos hov] at hs
      have iov:65535<a*16+((c.toNat:Int)-55):=by omega
      have HS:=Lib.hid hs
      clear hov ha hacc hs
      go_wp2_with (go_at_call 166;refine(hlc _).mono ?_;rintro e w' ⟨rfl,rfl⟩)
      go_ret2
      exact⟨by rw[HS.out];rfl,rfl⟩
     ·rw[if_neg hov] at hs
      have HN:Hid (a*16+((c.toNat:Int)-55)=((acc*16+(c.toNat-55):Nat):Int)∧acc*16+(c.toNat-55)≤65535∧hexEnd 0 bs=hexEnd (acc*16+(c.toNat-55)) (bs.drop (k+1))):=Lib.hid ⟨by omega,by omega,hs⟩
      have iov:a*16+((c.toNat:Int)-55)≤65535:=by omega
      clear hov ha hacc hs
      go_wp2_with (go_at_call 166;refine(hlc _).mono ?_;rintro e w' ⟨rfl,rfl⟩)
      go_roundw
      case rel=>exact⟨k+1,acc*16+(c.toNat-55),a*16+((c.toNat:Int)-55),rfl,(by first|rfl|(congr 1;omega)),(by first|rfl|(congr 1;omega)),by omega,HN,trivial⟩
      case measure=>simp[intOf];omega
    ·by_cases hL:97≤c.toNat∧c.toNat≤102
     ·obtain⟨hd0,hd1⟩:=hL
      have hs:=hstep (c.toNat-87) (by rw[hdN,if_neg hU,if_pos ⟨hd0,hd1⟩]) (by omega)
      have hv:=hlw hd0 hd1
      have hlc:∀w,Calls Tryz.prog 166 #[.int .u8 (c.toNat:Int)] w fun e w'=>e=.returned (.int .u8 (c.toNat:Int))∧w'=w:=fun w=>by
       have h:=Tryz.internal_strconv_lower (c.toNat:Int) w
       rw[hv] at h;exact h
      clear hstep hsyn hdN hlo hup hlw hdig hv hU
      by_cases hov:65535<acc*16+(c.toNat-87)
      ·rw[if_pos hov] at hs
       have iov:65535<a*16+((c.toNat:Int)-87):=by omega
       have HS:=Lib.hid hs
       clear hov ha hacc hs
       go_wp2_with (go_at_call 166;refine(hlc _).mono ?_;rintro e w' ⟨rfl,rfl⟩)
       go_ret2
       exact⟨by rw[HS.out];rfl,rfl⟩
      ·rw[if_neg hov] at hs
       have HN:Hid (a*16+((c.toNat:Int)-87)=((acc*16+(c.toNat-87):Nat):Int)∧acc*16+(c.toNat-87)≤65535∧hexEnd 0 bs=hexEnd (acc*16+(c.toNat-87)) (bs.drop (k+1))):=Lib.hid ⟨by omega,by omega,hs⟩
       have iov:a*16+((c.toNat:Int)-87)≤65535:=by omega
       clear hov ha hacc hs
       go_wp2_with (go_at_call 166;refine(hlc _).mono ?_;rintro e w' ⟨rfl,rfl⟩)
       go_roundw
       case rel=>exact⟨k+1,acc*16+(c.toNat-87),a*16+((c.toNat:Int)-87),rfl,(by first|rfl|(congr 1;omega)),(by first|rfl|(congr 1;omega)),by omega,HN,trivial⟩
       case measure=>simp[intOf];omega
     ·have HS:=Lib.hid (hsyn (by rw[hdN,if_neg hU,if_neg hL,if_neg hdig];decide))
      have hlo':=hlo hU hL
      have hv0:=bits_lo_u8 .or (c.toNat:Int) 32
      have hv1:=bits_hi_u8 .or (c.toNat:Int) 32
      have hlc:∀w,Calls Tryz.prog 166 #[.int .u8 (c.toNat:Int)] w fun e w'=>e=.returned (.int .u8 (bits .or .u8 (c.toNat:Int) 32))∧w'=w:=fun w=>Tryz.internal_strconv_lower _ _
      have hd':(c.toNat:Int)<48∨57<(c.toNat:Int):=by omega
      have hci0:(0:Int)≤(c.toNat:Int):=by omega
      have hci1:(c.toNat:Int)≤255:=by omega
      clear hstep hsyn hdN hlo hup hlw hU hL hdig hc256 ha hacc
      generalize bits .or .u8 (c.toNat:Int) 32=v at*
      generalize (c.toNat:Int)=ci at*
      by_cases h95:ci=95
      all_goals try subst h95
      all_goals rcases hlo' with hl|hl
      all_goals rcases hd' with hd|hd
      all_goals try (exfalso;omega)
      all_goals by_cases hz:v≤122
      all_goals try (exfalso;omega)
      all_goals go_wp2_with (go_at_call 166;refine(hlc _).mono ?_;rintro e w' ⟨rfl,rfl⟩)
      all_goals go_ret2
      all_goals exact⟨by rw[HS.out];rfl,rfl⟩
  ·have hkk:k=t.size:=by omega
   subst hkk
   have hF:hexEnd acc (bs.drop t.size)=.ok acc:=by rw[List.drop_eq_nil_of_le (by omega)];rfl
   rw[hF] at hdec
   subst ha
   have HS:=Lib.hid hdec
   clear hacc hF a0 a1 hdec
   go_wp2_with fail
   go_ret2
   exact⟨by rw[HS.out];rfl,rfl⟩
def UintPost (w:World)(o:Option Nat):Ending→World→Prop:=fun e w'=>∃(u:Int) (er:Value),e=.returned (.tuple #[.int .u64 u,er])∧0≤u∧u≤65535∧
 ((∃n:Nat,o=some n∧u=n∧er=.nilIface)∨(o=none∧∃te pe,er=.iface te pe))∧Below w.heap.size w w'
theorem parse16_all (t:ByteArray)(hmax:t.size≤1000)(w:World):
 Calls Tryz.prog 118 #[.string t,.int .i64 16,.int .i64 16] w fun e w'=>e=.returned (Lib.uintTupleM 264 65535 (if t.size=0 then badNum else hexEnd 0 t.data.toList))∧Below w.heap.size w w':=by
 by_cases h:t.size=0
 ·obtain rfl:t=⟨#[]⟩:=by
   cases t;rename_i d
   have:d.size=0:=h
   rw[Array.eq_empty_of_size_eq_zero this]
  refine(Tryz.internal_strconv_ParseUint_empty 16 16 w).mono ?_
  rintro e w' ⟨rfl,rfl⟩
  exact⟨rfl,Below.refl _ _⟩
 ·refine(parse16_in t h hmax w).mono ?_
  rintro e w' ⟨rfl,rfl⟩
  exact⟨by rw[if_neg h],bytesWorld_below _ _⟩
theorem hexEnd_le:∀(l:List UInt8) (acc n:Nat),acc≤65535→hexEnd acc l=.ok n→n≤65535
 |[],acc,n,h,e=>by simp only[hexEnd,Lib.NumEnd.ok.injEq] at e;omega
 |c::r,acc,n,h,e=>by
  rw[hexEnd] at e
  split at e
  ·exact absurd e (badNum_ok n)
  ·split at e
   ·cases e
   ·exact hexEnd_le r _ n (by omega) e
theorem ParseUint_any (t:ByteArray)(hmax:t.size≤1000)(w:World)(henv:Env w):
 Calls Tryz.prog 58 #[.string t,.int .i64 16,.int .i64 16] w (UintPost w (numberL 16 65536 t.data.toList)):=by
 have HE:=Lib.hid henv
 clear henv
 have hnum:numberL 16 65536 t.data.toList=match (if t.size=0 then badNum else hexEnd 0 t.data.toList) with| .ok n=>some n|_=>none:=by
  have hl:t.data.toList.length=t.size:=by rw[Array.length_toList,ByteArray.size_data]
  rw[numberL]
  by_cases h:t.size=0
  ·rw[if_pos h,if_pos (List.length_eq_zero_iff.1 (by omega))];rfl
  ·rw[if_neg h,if_neg (fun e=>h (by rw[←hl,e];rfl)),hexEnd_numL]
   try (cases hexEnd 0 t.data.toList<;>rfl)
 have hle:∀n,(if t.size=0 then badNum else hexEnd 0 t.data.toList)=Lib.NumEnd.ok n→n≤65535:=by
  intro n h
  split at h
  ·exact absurd h (badNum_ok n)
  ·exact hexEnd_le _ _ _ (by omega) h
 have HC:=Lib.hid (parse16_all t hmax w)
 cases hR:(if t.size=0 then badNum else hexEnd 0 t.data.toList) with
 |ok n=>
  rw[hR] at HC hnum
  have HN:=Lib.hid hnum
  have hn:=hle n hR
  clear hR hle hnum
  go_enter Tryz.func58,Tryz.ntmps58
  go_wp2_with fail
  refine Calls.mono HC.out ?_
  rintro e w1 ⟨rfl,hb⟩
  simp only[Lib.uintTupleM]
  go_wp2_with fail
  go_ret2
  exact⟨n,.nilIface,rfl,by omega,by omega,.inl ⟨n,HN.out,rfl,rfl⟩,hb⟩
 |range=>
  rw[hR] at HC hnum
  have HN:=Lib.hid hnum
  clear hR hle hnum
  go_enter Tryz.func58,Tryz.ntmps58
  go_wp2_with fail
  refine Calls.mono HC.out ?_
  rintro e w1 ⟨rfl,hb⟩
  simp only[Lib.uintTupleM]
  obtain⟨te,pe,hev⟩:=(HE.out.below hb).rng
  have HT:=Lib.hid (Tryz.strconv_toError_range ⟨#[80,97,114,115,101,85,105,110,116]⟩ t 16 16 _ w1 (by omega) hev (.inr ⟨te,pe,rfl⟩))
  go_wp2_with fail
  refine Calls.mono HT.out ?_
  rintro e w2 ⟨N,rfl,-,-,hb2⟩
  go_wp2_with fail
  go_ret2
  exact⟨65535,_,rfl,by omega,by omega,.inr ⟨HN.out,_,_,rfl⟩,Below.via hb hb2⟩
 |_=>
  rw[hR] at HC hnum
  have HN:=Lib.hid hnum
  clear hR hle hnum
  go_enter Tryz.func58,Tryz.ntmps58
  go_wp2_with fail
  refine Calls.mono HC.out ?_
  rintro e w1 ⟨rfl,hb⟩
  simp only[Lib.uintTupleM]
  obtain⟨te,pe,hev⟩:=(HE.out.below hb).syn
  have HT:=Lib.hid (Tryz.strconv_toError_syntax ⟨#[80,97,114,115,101,85,105,110,116]⟩ t 16 16 _ w1 (by omega) hev (.inr ⟨te,pe,rfl⟩))
  go_wp2_with fail
  refine Calls.mono HT.out ?_
  rintro e w2 ⟨N,rfl,-,-,hb2⟩
  go_wp2_with fail
  go_ret2
  exact⟨0,_,rfl,by omega,by omega,.inr ⟨HN.out,_,_,rfl⟩,Below.via hb hb2⟩
def digR (x:Nat):Bool:=decide (48≤x∧x≤57∨97≤x∧x≤102∨65≤x∧x≤70)
theorem digit_any (x:Nat)(hx:x≤1114111)(w:World):Calls Tryz.prog 210 #[.int .i32 (x:Int)] w (RetAt w (.bool (digR x))):=by
 have h0:(0:Int)≤(x:Int):=by omega
 have h1:(x:Int)≤1114111:=by omega
 go_enter Tryz.func210,Tryz.ntmps210
 go_wp2_with fail
 all_goals go_ret
 all_goals refine .mk (val_bool ?_) (Below.refl _ _)
 all_goals unfold digR
 all_goals rw[Bool.eq_iff_iff]
 all_goals simp
 all_goals omega
theorem numL_digits (base most:Nat):∀(l:List UInt8) (acc n:Nat),numL base most acc l=some n→∀c∈l,digitN c<base
 |[],_,_,_,c,hc=>absurd hc (List.not_mem_nil)
 |x::r,acc,n,h,c,hc=>by
  rw[numL] at h
  split at h
  ·cases h
  ·rcases List.mem_cons.1 hc with rfl|hc
   ·omega
   ·exact numL_digits base most r _ n h c hc
theorem digR_of (c:UInt8)(h:digitN c<16):digR c.toNat=true∧c.toNat<128:=by
 unfold digitN at h
 unfold digR
 split at h
 ·exact⟨decide_eq_true (by omega),by omega⟩
 ·split at h
  ·exact⟨decide_eq_true (by omega),by omega⟩
  ·split at h
   ·exact⟨decide_eq_true (by omega),by omega⟩
   ·omega
theorem idx_none (s:ByteArray)(h:∀c∈s.data.toList,digitN c<16):∀(f pos:Nat),Lib.idxFuncFrom (fun x=>!digR x) true s f pos=-1
 |0,_=>rfl
 |f+1,pos=>by
  rw[Lib.idxFuncFrom]
  by_cases hp:pos<s.size
  ·have hd:=digR_of (s[pos]'hp) (h _ (by rw[show s[pos]'hp=s.data.toList[pos]'(by simpa using hp) from rfl];exact List.getElem_mem _))
   rw[if_pos hp,decode_ascii s pos hp hd.2]
   simp only[hd.1]
   exact idx_none s h f _
  ·rw[if_neg hp]
theorem undigit_grows (w:World):PredGrows Tryz.prog 209 #[] (fun x=>!digR x) w:=by
 intro W x hx hb
 show Calls Tryz.prog 209 #[.int .i32 (x:Int)] W _
 go_enter Tryz.func209,Tryz.ntmps209
 go_wp2_with fail
 refine Calls.mono (digit_any x hx W) ?_
 rintro e w1 ⟨rfl,hb1⟩
 go_wp2_with fail
 go_ret
 exact⟨rfl,hb1⟩
structure RowSt (w W:World)(hi:Nat)(op:Option Addr)(nP capp:Nat)(P:List (List UInt8))(oa:Option Addr)(n cap:Nat)(G:List Nat)(ok:Bool):Prop where
 below:Below w.heap.size w W
 list:W.cell? ⟨w.heap.size,0,none⟩=some (.slice oa n cap)
 okc:W.cell? ⟨w.heap.size+1,0,none⟩=some (.bool ok)
 listF:W.frozen? ⟨w.heap.size,0,none⟩=false
 okF:W.frozen? ⟨w.heap.size+1,0,none⟩=false
 parts:Owns W (w.heap.size+2) 1 op nP capp (P.map strV)
 plt:∀a,op=some a→a.block<hi
 hiW:hi≤W.heap.size
 lo:w.heap.size+2≤hi
 row:Owns W hi 1 oa n cap (G.map fun(m:Nat)=>Value.int .u64 (m:Int))
theorem RowSt.go {w W W':World}{hi:Nat}{op:Option Addr}{nP capp:Nat}{P:List (List UInt8)}{oa:Option Addr}{n cap:Nat}{G:List Nat}{ok:Bool}(h:RowSt w W hi op nP capp P oa n cap G ok)(hb:Below W.heap.size W W'):RowSt w W' hi op nP capp P oa n cap G ok where
 below:=Below.via h.below hb
 list:=(hb.cell (p:=⟨_,_,none⟩) (World.block_lt_of_cell? W _ h.list)).trans h.list
 okc:=(hb.cell (p:=⟨_,_,none⟩) (World.block_lt_of_cell? W _ h.okc)).trans h.okc
 listF:=(hb.frozen (p:=⟨_,_,none⟩) (World.block_lt_of_cell? W _ h.list)).trans h.listF
 okF:=(hb.frozen (p:=⟨_,_,none⟩) (World.block_lt_of_cell? W _ h.okc)).trans h.okF
 parts:=h.parts.below hb
 plt:=h.plt
 hiW:=Nat.le_trans h.hiW hb.size
 lo:=h.lo
 row:=h.row.below hb
theorem info_u64:(Tryz.prog.info? 124).map (fun i=>(i.zero,i.size,i.bytes))=some (some (.int .u64 0),1,8):=by kernel_rfl
theorem RowSt.put {w W:World}{hi:Nat}{op:Option Addr}{nP capp:Nat}{P:List (List UInt8)}{oa:Option Addr}{n cap:Nat}{G:List Nat}{ok:Bool}(h:RowSt w W hi op nP capp P oa n cap G ok)(b:Bool):RowSt w (W.setCell ⟨w.heap.size+1,0,none⟩ (.bool b)) hi op nP capp P oa n cap G b where
 below:=h.below.setCell (by simp only;omega) _
 list:=(by rw[World.cell?_setCell_other];exact h.list;intro e;injection e;omega)
 okc:=by first|exact World.cell?_setCell_same _ h.okc|exact World.cell?_setCell_same _ _ h.okc|exact World.cell?_setCell_same _ _ _ h.okc
 listF:=by simpa using h.listF
 okF:=by simpa using h.okF
 parts:=h.parts.other (fun a ha=>by have:=(h.parts.lt ha).1;simp only;omega) _
 plt:=h.plt
 hiW:=by simpa using h.hiW
 lo:=h.lo
 row:=h.row.other (fun a ha=>by have:=(h.row.lt ha).1;have:=h.lo;simp only;omega) _
structure RowGrown (w W:World)(hi:Nat)(op:Option Addr)(nP capp:Nat)(P:List (List UInt8))(oa:Option Addr)(n cap:Nat)(G:List Nat)(ok:Bool):Prop where
 list:∃v,W.cell? ⟨w.heap.size,0,none⟩=some v
 listF:W.frozen? ⟨w.heap.size,0,none⟩=false
 put:RowSt w (W.setCell ⟨w.heap.size,0,none⟩ (.slice oa n cap)) hi op nP capp P oa n cap G ok
theorem RowSt.grown {w W w':World}{hi:Nat}{op:Option Addr}{nP capp:Nat}{P:List (List UInt8)}{oa:Option Addr}{n cap:Nat}{G:List Nat}{ok:Bool}(h:RowSt w W hi op nP capp P oa n cap G ok)
 (hg:W.grownBy w' (oa.map Addr.block)){oa':Option Addr}{n' cap':Nat}{G':List Nat}(ho:Owns w' hi 1 oa' n' cap' (G'.map fun(m:Nat)=>Value.int .u64 (m:Int))):RowGrown w w' hi op nP capp P oa' n' cap' G' ok:=by
 have hlo:=h.lo
 have hhi:=h.hiW
 have hne:∀k,k<hi→some k≠oa.map Addr.block:=by
  intro k hk e
  obtain⟨a,e1,e2⟩:=Option.map_eq_some_iff.1 e.symm
  have:=(h.row.lt e1).1
  omega
 have e0:w'.heap[w.heap.size]? =W.heap[w.heap.size]?:=hg.block _ (by omega) (hne _ (by omega))
 have e1:w'.heap[w.heap.size+1]? =W.heap[w.heap.size+1]?:=hg.block _ (by omega) (hne _ (by omega))
 have hl:w'.cell? ⟨w.heap.size,0,none⟩=some (.slice oa n cap):=by rw[World.cell?_of_block (w:=W) (a:=⟨w.heap.size,0,none⟩) e0];exact h.list
 have hok:w'.cell? ⟨w.heap.size+1,0,none⟩=some (.bool ok):=by rw[World.cell?_of_block (w:=W) (a:=⟨w.heap.size+1,0,none⟩) e1];exact h.okc
 have hlF:w'.frozen? ⟨w.heap.size,0,none⟩=false:=by rw[World.frozen?_of_block (w:=W) (a:=⟨w.heap.size,0,none⟩) e0];exact h.listF
 have hokF:w'.frozen? ⟨w.heap.size+1,0,none⟩=false:=by rw[World.frozen?_of_block (w:=W) (a:=⟨w.heap.size+1,0,none⟩) e1];exact h.okF
 have hP:Owns w' (w.heap.size+2) 1 op nP capp (P.map strV):=h.parts.grown hg fun a ha=>hne _ (h.plt a ha)
 have hB:Below w.heap.size w w':=Below.appended h.below h.row (by omega) hg (by omega)
 refine⟨⟨_,hl⟩,hlF,?_⟩
 refine⟨hB.setCell (by simp only;omega) _,?_,?_,by simpa using hlF,by simpa using hokF,hP.other (fun a ha=>by have:=(hP.lt ha).1;simp only;omega) _,h.plt,?_,hlo,ho.other (fun a ha=>by have:=(ho.lt ha).1;simp only;omega) _⟩
 ·first|exact World.cell?_setCell_same _ hl|exact World.cell?_setCell_same _ _ hl|exact World.cell?_setCell_same _ _ _ hl
 ·rw[World.cell?_setCell_other];exact hok;intro e;injection e;omega
 ·have:=hg.size;simp;omega
theorem closure_no (p:ByteArray)(hp:p.size≤1000)(w W:World)(hi:Nat)(op:Option Addr)(nP capp:Nat)(P:List (List UInt8))(oa:Option Addr)(n cap:Nat)(G:List Nat)(HE:Hid (Env W))
 (hn:n≤1000)(h:Hid (RowSt w W hi op nP capp P oa n cap G false)):
 Calls Tryz.prog 207 #[.string p,.pointer (some ⟨w.heap.size+1,0,none⟩),.pointer (some ⟨w.heap.size,0,none⟩)] W
  (fun e w'=>∃oa' cap' u,e=.returned (.tuple #[])∧RowSt w w' hi op nP capp P oa' (n+1) cap' (G++[u]) false):=by
 go_enter Tryz.func207,Tryz.ntmps207
 go_wp2_with fail
 refine Calls.mono (ParseUint_any p hp W HE.out) ?_
 rintro e w1 ⟨u,er,rfl,hu0,hu1,-,hb⟩
 obtain⟨v,rfl⟩:∃v:Nat,u=(v:Int):=⟨u.toNat,by omega⟩
 have H1:=Lib.hid (h.out.go hb)
 have hl:=H1.out.list
 have ho:=H1.out.okc
 have hlF:=H1.out.listF
 have hoF:=H1.out.okF
 clear hb HE h
 go_wp2_with (at_builtin;refine Stopped.of ?_)
 refine Stopped.mk ?_
 have H2:=Lib.hid (H1.out.put false)
 refine wpList_append_owns _ rfl _ _ 252 rfl 124 (.int .u64 0) 1 8 hi Tryz.underlying252 info_u64 rfl (by decide) oa n cap _ rfl (H2.out.row.alloc _) ⟨w1.heap.size,0,none⟩ 1 1 [.int .u64 v] rfl rfl ?_ ?_ (by decide) ?_ ?_ ?_ ?_
 ·have h:=news_new (w1.setCell ⟨w.heap.size+1,0,none⟩ (.bool false)) #[.int .u64 v] 124
  simpa using h
 ·simp[Value.oneCell']
 ·unfold maxLen;omega
 ·omega
 ·have:=H2.out.hiW;simp only[World.size_alloc];omega
 intro oa' cap' w' ho' hg2 hd
 have HG:=Lib.hid ((H2.out.go ((Below.refl _ _).alloc (Nat.le_refl _) _)).grown hg2 (G':=G++[v]) (by rw[List.map_append];exact ho'))
 obtain⟨vl,hvl⟩:=HG.out.list
 have hvF:=HG.out.listF
 clear hg2 hd ho' H1 H2 hl ho hlF hoF
 go_wp2_with fail
 go_end0
 exact⟨oa',cap',v,rfl,HG.out.put⟩
theorem closure_err (p:ByteArray)(hp:p.size≤1000)(w W:World)(hi:Nat)(op:Option Addr)(nP capp:Nat)(P:List (List UInt8))(oa:Option Addr)(n cap:Nat)(G:List Nat)(HE:Hid (Env W))
 (hn:n≤1000)(h:Hid (RowSt w W hi op nP capp P oa n cap G true))(hx:numberL 16 65536 p.data.toList=none):
 Calls Tryz.prog 207 #[.string p,.pointer (some ⟨w.heap.size+1,0,none⟩),.pointer (some ⟨w.heap.size,0,none⟩)] W
  (fun e w'=>∃oa' cap' u,e=.returned (.tuple #[])∧RowSt w w' hi op nP capp P oa' (n+1) cap' (G++[u]) false):=by
 go_enter Tryz.func207,Tryz.ntmps207
 go_wp2_with fail
 refine Calls.mono (ParseUint_any p hp W HE.out) ?_
 rintro e w1 ⟨u,er,rfl,hu0,hu1,hcase,hb⟩
 obtain⟨te,pe,rfl⟩:∃te pe,er=.iface te pe:=by
  rcases hcase with ⟨m,h1,-⟩|⟨-,h2⟩
  ·rw[hx] at h1;cases h1
  ·exact h2
 clear hcase hx
 obtain⟨v,rfl⟩:∃v:Nat,u=(v:Int):=⟨u.toNat,by omega⟩
 have H1:=Lib.hid (h.out.go hb)
 have hl:=H1.out.list
 have ho:=H1.out.okc
 have hlF:=H1.out.listF
 have hoF:=H1.out.okF
 clear hb HE h
 go_wp2_with (at_builtin;refine Stopped.of ?_)
 refine Stopped.mk ?_
 have H2:=Lib.hid (H1.out.put false)
 refine wpList_append_owns _ rfl _ _ 252 rfl 124 (.int .u64 0) 1 8 hi Tryz.underlying252 info_u64 rfl (by decide) oa n cap _ rfl (H2.out.row.alloc _) ⟨w1.heap.size,0,none⟩ 1 1 [.int .u64 v] rfl rfl ?_ ?_ (by decide) ?_ ?_ ?_ ?_
 ·have h:=news_new (w1.setCell ⟨w.heap.size+1,0,none⟩ (.bool false)) #[.int .u64 v] 124
  simpa using h
 ·simp[Value.oneCell']
 ·unfold maxLen;omega
 ·omega
 ·have:=H2.out.hiW;simp only[World.size_alloc];omega
 intro oa' cap' w' ho' hg2 hd
 have HG:=Lib.hid ((H2.out.go ((Below.refl _ _).alloc (Nat.le_refl _) _)).grown hg2 (G':=G++[v]) (by rw[List.map_append];exact ho'))
 obtain⟨vl,hvl⟩:=HG.out.list
 have hvF:=HG.out.listF
 clear hg2 hd ho' H1 H2 hl ho hlF hoF
 go_wp2_with fail
 go_end0
 exact⟨oa',cap',v,rfl,HG.out.put⟩
theorem closure_long (p:ByteArray)(hp:p.size≤1000)(w W:World)(hi:Nat)(op:Option Addr)(nP capp:Nat)(P:List (List UInt8))(oa:Option Addr)(n cap:Nat)(G:List Nat)(HE:Hid (Env W))
 (hn:n≤1000)(h:Hid (RowSt w W hi op nP capp P oa n cap G true))(m:Nat)(hx:numberL 16 65536 p.data.toList=some m)(h4:4<p.size):
 Calls Tryz.prog 207 #[.string p,.pointer (some ⟨w.heap.size+1,0,none⟩),.pointer (some ⟨w.heap.size,0,none⟩)] W
  (fun e w'=>∃oa' cap' u,e=.returned (.tuple #[])∧RowSt w w' hi op nP capp P oa' (n+1) cap' (G++[u]) false):=by
 go_enter Tryz.func207,Tryz.ntmps207
 go_wp2_with fail
 refine Calls.mono (ParseUint_any p hp W HE.out) ?_
 rintro e w1 ⟨u,er,rfl,hu0,hu1,hcase,hb⟩
 obtain rfl:er=.nilIface:=by
  rcases hcase with ⟨m,h1,-,h2⟩|⟨h1,-⟩
  ·exact h2
  ·rw[hx] at h1;cases h1
 clear hcase hx
 obtain⟨v,rfl⟩:∃v:Nat,u=(v:Int):=⟨u.toNat,by omega⟩
 have H1:=Lib.hid (h.out.go hb)
 have hl:=H1.out.list
 have ho:=H1.out.okc
 have hlF:=H1.out.listF
 have hoF:=H1.out.okF
 clear hb HE h
 go_wp2_with (at_builtin;refine Stopped.of ?_)
 refine Stopped.mk ?_
 have H2:=Lib.hid (H1.out.put false)
 refine wpList_append_owns _ rfl _ _ 252 rfl 124 (.int .u64 0) 1 8 hi Tryz.underlying252 info_u64 rfl (by decide) oa n cap _ rfl (H2.out.row.alloc _) ⟨w1.heap.size,0,none⟩ 1 1 [.int .u64 v] rfl rfl ?_ ?_ (by decide) ?_ ?_ ?_ ?_
 ·have h:=news_new (w1.setCell ⟨w.heap.size+1,0,none⟩ (.bool false)) #[.int .u64 v] 124
  simpa using h
 ·simp[Value.oneCell']
 ·unfold maxLen;omega
 ·omega
 ·have:=H2.out.hiW;simp only[World.size_alloc];omega
 intro oa' cap' w' ho' hg2 hd
 have HG:=Lib.hid ((H2.out.go ((Below.refl _ _).alloc (Nat.le_refl _) _)).grown hg2 (G':=G++[v]) (by rw[List.map_append];exact ho'))
 obtain⟨vl,hvl⟩:=HG.out.list
 have hvF:=HG.out.listF
 clear hg2 hd ho' H1 H2 hl ho hlF hoF
 go_wp2_with fail
 go_end0
 exact⟨oa',cap',v,rfl,HG.out.put⟩
theorem closure_yes (p:ByteArray)(hp:p.size≤1000)(w W:World)(hi:Nat)(op:Option Addr)(nP capp:Nat)(P:List (List UInt8))(oa:Option Addr)(n cap:Nat)(G:List Nat)(HE:Hid (Env W))
 (hn:n≤1000)(h:Hid (RowSt w W hi op nP capp P oa n cap G true))(m:Nat)(hx:numberL 16 65536 p.data.toList=some m)(h4:p.size≤4):
 Calls Tryz.prog 207 #[.string p,.pointer (some ⟨w.heap.size+1,0,none⟩),.pointer (some ⟨w.heap.size,0,none⟩)] W
  (fun e w'=>∃oa' cap' u,e=.returned (.tuple #[])∧RowSt w w' hi op nP capp P oa' (n+1) cap' (G++[u]) true∧u=m):=by
 go_enter Tryz.func207,Tryz.ntmps207
 go_wp2_with fail
 refine Calls.mono (ParseUint_any p hp W HE.out) ?_
 rintro e w1 ⟨u,er,rfl,hu0,hu1,hcase,hb⟩
 obtain⟨rfl,rfl⟩:u=(m:Int)∧er=.nilIface:=by
  rcases hcase with ⟨m',h1,h3,h2⟩|⟨h1,-⟩
  ·rw[hx] at h1;cases h1;exact⟨h3,h2⟩
  ·rw[hx] at h1;cases h1
 have hdg:∀c∈p.data.toList,digitN c<16:=by
  unfold numberL at hx
  split at hx
  ·cases hx
  ·exact numL_digits 16 65536 _ _ _ hx
 have HI:=Lib.hid (idx_none p hdg p.size 0)
 clear hcase hx hdg
 have H1:=Lib.hid (h.out.go hb)
 have hl:=H1.out.list
 have ho:=H1.out.okc
 have hlF:=H1.out.listF
 have hoF:=H1.out.okF
 clear hb HE h
 go_wp2_with fail
 refine Calls.mono (Tryz.strings_IndexFunc_grows 209 #[] (enters_of Tryz.func209 (by kernel_rfl) rfl) (fun x=>!digR x) p w1 (undigit_grows w1)) ?_
 rintro e w2 ⟨rfl,hb2⟩
 rw[show Lib.idxFunc (fun x=>!digR x) true p=-1 from HI.out]
 have H3:=Lib.hid (H1.out.go hb2)
 clear H1
 clear hl ho hlF hoF hb2
 have H1:=H3
 have hl:=H1.out.list
 have ho:=H1.out.okc
 have hlF:=H1.out.listF
 have hoF:=H1.out.okF
 clear H3
 go_wp2_with (at_builtin;refine Stopped.of ?_)
 refine Stopped.mk ?_
 have H2:=Lib.hid (H1.out.put true)
 refine wpList_append_owns _ rfl _ _ 252 rfl 124 (.int .u64 0) 1 8 hi Tryz.underlying252 info_u64 rfl (by decide) oa n cap _ rfl (H2.out.row.alloc _) ⟨w2.heap.size,0,none⟩ 1 1 [.int .u64 m] rfl rfl ?_ ?_ (by decide) ?_ ?_ ?_ ?_
 ·have h:=news_new (w2.setCell ⟨w.heap.size+1,0,none⟩ (.bool true)) #[.int .u64 m] 124
  simpa using h
 ·simp[Value.oneCell']
 ·unfold maxLen;omega
 ·omega
 ·have:=H2.out.hiW;simp only[World.size_alloc];omega
 intro oa' cap' w' ho' hg2 hd
 have HG:=Lib.hid ((H2.out.go ((Below.refl _ _).alloc (Nat.le_refl _) _)).grown hg2 (G':=G++[m]) (by rw[List.map_append];exact ho'))
 obtain⟨vl,hvl⟩:=HG.out.list
 have hvF:=HG.out.listF
 clear hg2 hd ho' H1 H2 hl ho hlF hoF
 go_wp2_with fail
 go_end0
 exact⟨oa',cap',m,rfl,HG.out.put,rfl⟩
theorem split_row (s:ByteArray)(c:UInt8):(Lib.splitB ⟨#[c]⟩ 0 (Lib.countB s ⟨#[c]⟩) s).map Value.string=(cutsL c s.data.toList).map strV:=by
 have h:=Lib.splitB_data ⟨#[c]⟩ 0 (Lib.countB s ⟨#[c]⟩) s
 have h2:Lib.splitK (⟨#[c]⟩:ByteArray).data.toList 0 (Lib.countB s ⟨#[c]⟩) s.data.toList=cutsL c s.data.toList:=split_cuts c s.data.toList
 rw[h2] at h
 rw[←h,List.map_map]
 congr 1
theorem split_new (s:ByteArray)(c:UInt8)(w:World)(henv:Env w)(hs:s.size≤1000):Calls Tryz.prog 57 #[.string s,.string ⟨#[c]⟩] w (NewStrings w (cutsL c s.data.toList)):=by
 obtain⟨m,hm⟩:=henv.len
 refine(Tryz.strings_Split s ⟨#[c]⟩ m w (by omega) hm (Nat.le_refl 1)).mono ?_
 rintro e w' ⟨rfl,rfl⟩
 have hr:=split_row s c
 have hl:Lib.countB s ⟨#[c]⟩+1=(cutsL c s.data.toList).length:=by
  have h1:=Lib.splitB_all ⟨#[c]⟩ (Nat.le_refl 1) 0 (Lib.countB s ⟨#[c]⟩) s rfl
  have h2:=congrArg List.length hr
  rw[List.length_map,List.length_map,h1] at h2
  exact h2
 have hn:(cutsL c s.data.toList).length≤1001:=by
  have:=cutsL_count c s.data.toList
  have hz:s.data.toList.length=s.size:=by rw[Array.length_toList,ByteArray.size_data]
  omega
 rw[hl,hr]
 refine⟨_,_,rfl,?_,(Below.refl _ _).alloc (Nat.le_refl _) _⟩
 exact Owns.made _ _ _ _ _ (Nat.le_refl _) (by simp) (Nat.le_refl _) (by unfold maxLen;omega) (by
  rw[List.toList_toArray,Nat.mul_one]
  exact List.take_of_length_le (by rw[List.length_map];exact Nat.le_refl _))
def RowPost (w:World)(o:Option (List Nat)):Ending→World→Prop:=fun e w'=>∃(oa:Option Addr) (cap:Nat) (G:List Nat) (ok:Bool),e=.returned (.tuple #[.slice oa G.length cap,.bool ok])∧
 Owns w' w.heap.size 1 oa G.length cap (G.map fun(m:Nat)=>Value.int .u64 (m:Int))∧Below w.heap.size w w'∧G.length≤1001∧((ok=true∧o=some G)∨(ok=false∧o=none))
theorem RowSt.start {w w1:World}{op:Option Addr}{nP capp:Nat}{P:List (List UInt8)}(HO:Owns w1 ((w.alloc (Obj.cells #[Value.slice none 0 0] 252)).alloc (Obj.cells #[Value.bool true] 4)).heap.size 1 op nP capp (P.map strV))
 (HB:Below ((w.alloc (Obj.cells #[Value.slice none 0 0] 252)).alloc (Obj.cells #[Value.bool true] 4)).heap.size ((w.alloc (Obj.cells #[Value.slice none 0 0] 252)).alloc (Obj.cells #[Value.bool true] 4)) w1):
 RowSt w w1 w1.heap.size op nP capp P none 0 0 [] true where
 below:=Below.via (Below.all (Below.all (Below.refl _ _) _) _) HB
 list:=(HB.cell (p:=⟨w.heap.size,0,none⟩) (by simp;omega)).trans (by simp[go_sem])
 okc:=(HB.cell (p:=⟨w.heap.size+1,0,none⟩) (by simp)).trans (by simp[go_sem])
 listF:=(HB.frozen (p:=⟨w.heap.size,0,none⟩) (by simp;omega)).trans (by simp[go_sem])
 okF:=(HB.frozen (p:=⟨w.heap.size+1,0,none⟩) (by simp)).trans (by simp[go_sem])
 parts:=by simpa using HO
 plt:=fun a ha=>(HO.lt ha).2
 hiW:=Nat.le_refl _
 lo:=by have:=HB.size;simpa using this
 row:=Owns.nil _ _ _
theorem row_any (s:ByteArray)(w:World)(hs:s.size≤1000)(henv:Env w):Calls Tryz.prog 174 #[.string s] w (RowPost w (groupsL s.data.toList)):=by
 have HE:=Lib.hid henv
 clear henv
 by_cases he:s=⟨#[]⟩
 ·subst he
  go_enter Tryz.func174,Tryz.ntmps174
  go_wp2_with fail
  refine bodyPost_ret (v:=.tuple #[.slice none 0 0,.bool true]) (by simp[results,Tryz.results174,go_sem]) rfl ⟨none,0,[],true,rfl,Owns.nil _ _ _,?_,by simp,.inl ⟨rfl,rfl⟩⟩
  exact Below.all (Below.all (Below.refl _ _) _) _
 ·have hne:s.data.toList≠[]:=fun e=>he (by cases s;rename_i d;cases d;simp only at e;subst e;rfl)
  have HGL:=Lib.hid (show groupsL s.data.toList=(cutsL 58 s.data.toList).mapM hexG by rw[groupsL,if_neg hne])
  have hls:s.data.toList.length=s.size:=by rw[Array.length_toList,ByteArray.size_data]
  have HPL:Hid (∀p∈cutsL 58 s.data.toList,p.length≤1000):=Lib.hid (fun p hp=>by have:=cutsL_len 58 _ p hp;omega)
  have HPC:Hid ((cutsL 58 s.data.toList).length≤1001):=Lib.hid (by have:=cutsL_count 58 s.data.toList;omega)
  have HCA:=Lib.hid (fun w h=>split_new s 58 w h hs)
  have heq:s.toList.isEmpty=false:=by rw[toList_data8];cases h:s.data.toList with
   |nil=>exact absurd h hne
   |cons a t=>rfl
  clear he hls hs hne
  generalize cutsL 58 s.data.toList=P at*
  go_enter Tryz.func174,Tryz.ntmps174
  go_wp2_with fail
  refine Calls.mono (HCA.out _ (HE.out.below (Below.all (Below.all (Below.refl _ _) _) _))) ?_
  rintro e w1 ⟨op,capp,rfl,HO,HB⟩
  have HS:=Lib.hid (RowSt.start HO HB)
  clear HO HB
  have hpc:=HPC.out
  generalize hnP:P.length=nP at*
  have HNP:=Lib.hid hnP
  clear hnP
  generalize w1.heap.size=hi at*
  go_wp2_with fail
  go_loopw [6,13] (fun u6 u13 wr=>∃(k:Nat) (oa:Option Addr) (cap:Nat) (G:List Nat) (ok:Bool),k≤nP∧u13=.int .i64 k∧Hid (G.length=k)∧Hid ((ok=true∧(P.take k).mapM hexG=some G)∨(ok=false∧P.mapM hexG=none))∧Hid (RowSt w wr hi op nP capp P oa k cap G ok)) (fun _ u13 _=>(nP:Int)-intOf u13 |>.toNat)
  case atStart=>exact⟨0,none,0,[],true,Nat.zero_le _,rfl,Lib.hid rfl,Lib.hid (.inl ⟨rfl,rfl⟩),HS⟩
  case round=>
   obtain⟨k,oa,cap,G,ok,hk,rfl,HGn,HG,HR⟩:=hrel
   by_cases hlt:k<nP
   ·have hkP:k<P.length:=by rw[HNP.out];exact hlt
    obtain⟨g,off,hop,hbg,hg,hc,ht⟩:=HR.out.parts.here (by omega)
    subst hop
    have hcl:=hc k (strV P[k]) (by simp[hkP])
    have hpl:=HPL.out P[k] (List.getElem_mem hkP)
    have HTS:=Lib.hid (show P.take (k+1)=P.take k++[P[k]] by rw[List.take_succ_eq_append_getElem hkP])
    have HMI:=Lib.hid (fun h=>mapM_miss hexG P k hkP h)
    have HEw:=Lib.hid (HE.out.below HR.out.below)
    clear hc ht
    unfold strV at hcl
    generalize P[k]=p at*
    have hsz:(⟨p.toArray⟩:ByteArray).size=p.length:=by simp[ByteArray.size]
    have hpe:((⟨p.toArray⟩:ByteArray).data.toList)=p:=by simp
    have hp1:(⟨p.toArray⟩:ByteArray).size≤1000:=by omega
    have hk1:k≤1000:=by omega
    rcases HG.out with ⟨rfl,hG⟩|⟨rfl,hG⟩
    ·cases hn:numberL 16 65536 p with
     |none=>
      have HX:=Lib.hid (HMI.out (by unfold hexG;split<;>simp[hn]))
      rw[←hpe] at hn
      clear hpl hsz
      go_wp2_with fail
      refine Calls.mono (closure_err _ hp1 w wr hi _ nP capp P oa k cap G HEw hk1 HR hn) ?_
      rintro e w2 ⟨oa',cap',u,rfl,H⟩
      have H2:=Lib.hid H
      clear H
      go_wp2_with fail
      go_roundw
      case rel=>exact⟨k+1,oa',cap',G++[u],false,by omega,by go_num,Lib.hid (by rw[List.length_append,HGn.out];rfl),Lib.hid (.inr ⟨rfl,HX.out⟩),H2⟩
      case measure=>simp[intOf];omega
     |some n=>
      by_cases h4:p.length≤4
      ·have HX:=Lib.hid (show(P.take (k+1)).mapM hexG=some (G++[n]) by rw[HTS.out];exact mapM_snoc _ _ _ _ _ hG (by unfold hexG;rw[if_pos h4,hn]))
       rw[←hpe] at hn
       rw[←hsz] at h4
       clear hpl hsz
       go_wp2_with fail
       refine Calls.mono (closure_yes _ hp1 w wr hi _ nP capp P oa k cap G HEw hk1 HR n hn h4) ?_
       rintro e w2 ⟨oa',cap',u,rfl,H,rfl⟩
       have H2:=Lib.hid H
       clear H
       go_wp2_with fail
       go_roundw
       case rel=>exact⟨k+1,oa',cap',G++[u],true,by omega,by go_num,Lib.hid (by rw[List.length_append,HGn.out];rfl),Lib.hid (.inl ⟨rfl,HX.out⟩),H2⟩
       case measure=>simp[intOf];omega
      ·have HX:=Lib.hid (HMI.out (by unfold hexG;rw[if_neg h4]))
       rw[←hpe] at hn
       have h5:4<(⟨p.toArray⟩:ByteArray).size:=by omega
       clear hpl hsz
       go_wp2_with fail
       refine Calls.mono (closure_long _ hp1 w wr hi _ nP capp P oa k cap G HEw hk1 HR n hn h5) ?_
       rintro e w2 ⟨oa',cap',u,rfl,H⟩
       have H2:=Lib.hid H
       clear H
       go_wp2_with fail
       go_roundw
       case rel=>exact⟨k+1,oa',cap',G++[u],false,by omega,by go_num,Lib.hid (by rw[List.length_append,HGn.out];rfl),Lib.hid (.inr ⟨rfl,HX.out⟩),H2⟩
       case measure=>simp[intOf];omega
    ·have HX:=Lib.hid hG
     clear hpl hsz
     go_wp2_with fail
     refine Calls.mono (closure_no _ hp1 w wr hi _ nP capp P oa k cap G HEw hk1 HR) ?_
     rintro e w2 ⟨oa',cap',u,rfl,H⟩
     have H2:=Lib.hid H
     clear H
     go_wp2_with fail
     go_roundw
     case rel=>exact⟨k+1,oa',cap',G++[u],false,by omega,by go_num,Lib.hid (by rw[List.length_append,HGn.out];rfl),Lib.hid (.inr ⟨rfl,HX.out⟩),H2⟩
     case measure=>simp[intOf];omega
   ·obtain rfl:k=nP:=by omega
    have HF:Hid (P.take k=P):=Lib.hid (by rw[List.take_of_length_le (by rw[HNP.out];exact Nat.le_refl _)])
    have hl:=HR.out.list
    have ho:=HR.out.okc
    have hlF:=HR.out.listF
    have hoF:=HR.out.okF
    go_wp2_with fail
    go_region
    go_wp2_with fail
    refine bodyPost_ret (v:=.tuple #[.slice oa k cap,.bool ok]) (by simp[results,Tryz.results174,go_sem,hl,ho]) rfl ?_
    have h1:=HR.out.row
    have hh:=HR.out.lo
    have h2:∀(b:Nat) (u:Value),b<hi→∀w',Owns w' hi 1 oa k cap (G.map fun(m:Nat)=>Value.int .u64 (m:Int))→Owns (w'.setCell ⟨b,0,none⟩ u) hi 1 oa k cap (G.map fun(m:Nat)=>Value.int .u64 (m:Int)):=fun b u hb w' h=>h.other (fun a ha=>by have:=(h.lt ha).1;simp only;omega) u
    obtain rfl:=HGn.out
    have hpc:=HPC.out
    have hnp:=HNP.out
    refine⟨oa,cap,G,ok,rfl,?_,?_,by omega,?_⟩
    ·exact Owns.mono (by first|exact(h2 _ _ (by omega) _ (h2 _ _ (by omega) _ h1)).drew|exact h2 _ _ (by omega) _ (h2 _ _ (by omega) _ h1)|exact h2 _ _ (by omega) _ (h2 _ _ (by omega) _ h1.drew)) (by omega)
    ·first|exact((HR.out.below.setCell (by simp only;omega) _).setCell (by simp only;omega) _).drew|exact(HR.out.below.setCell (by simp only;omega) _).setCell (by simp only;omega) _|exact(HR.out.below.drew.setCell (by simp only;omega) _).setCell (by simp only;omega) _
    ·rcases HG.out with ⟨h,hG⟩|⟨h,hG⟩
     ·exact .inl ⟨h,by rw[HGL.out,←hG,HF.out]⟩
     ·exact .inr ⟨h,by rw[HGL.out,hG]⟩
end
end Go.Proofs.YtkgjbipfhhjlpaaGreatDoor
