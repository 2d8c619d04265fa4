import Derived.Test.YtkgjbipfhhjlpaaGreatDoorMk8
set_option linter.unusedVariables false
set_option linter.unusedSimpArgs false
set_option maxRecDepth 100000
set_option maxHeartbeats 32000000
namespace Go.Proofs.YtkgjbipfhhjlpaaGreatDoor
section
open Go.RowKit
theorem parseOf_some {F S:Option (List Nat)}(h4:∀m,S=some m→F=none){l:List Nat}(h:S=some l):parseOf F S=some (true,sixB l):=by
 rw[h4 l h,h];rfl
theorem numberL_bd {base most:Nat}{l:List UInt8}{n:Nat}(h0:0<most)(h:numberL base most l=some n):n<most:=by
 unfold numberL at h
 split at h
 ·cases h
 ·exact numL_lt base most l 0 n h0 h
theorem fourB_snoc (l:List Nat)(n k:Nat)(hk:l.length=k)(i:Nat):fourB (l++[n]) i=if i=k then (n:Int) else fourB l i:=by
 unfold fourB
 by_cases hik:i=k
 ·rw[if_pos hik]
  rw[List.getD_eq_getElem?_getD,List.getElem?_append_right (by omega)]
  simp[hik,hk]
 ·rw[if_neg hik,List.getD_eq_getElem?_getD,List.getD_eq_getElem?_getD]
  by_cases hlt2:i<k
  ·rw[List.getElem?_append_left (by omega)]
  ·rw[List.getElem?_eq_none (by simp;omega),List.getElem?_eq_none (by omega)]
theorem rparse_any (s:ByteArray)(w:World)(hs:s.size≤1000):Calls Tryz.prog 62 #[.string s] w (RetAt w (parseV (parseL s.data.toList))):=by
 have H6:=Lib.hid (fun w=>rsix_any s w hs)
 have H46:=Lib.hid (fun m (h:sixL s.data.toList=some m)=>four_six s.data.toList h)
 have HFL:Hid (fourL s.data.toList=if (cutsL 46 s.data.toList).length=4 then (cutsL 46 s.data.toList).mapM (decL 256) else none):=Lib.hid rfl
 have hls:s.data.toList.length=s.size:=by rw[Array.length_toList,ByteArray.size_data]
 have HPL:Hid (∀p∈cutsL 46 s.data.toList,p.length≤1000):=Lib.hid (fun p hp=>by have:=cutsL_len 46 _ p hp;omega)
 have HPC:Hid ((cutsL 46 s.data.toList).length≤1001):=Lib.hid (by have:=cutsL_count 46 s.data.toList;omega)
 have HCA:=Lib.hid (fun w=>cuts_any s 46 w hs)
 rw[parseL_of]
 clear hls hs
 generalize cutsL 46 s.data.toList=P at*
 generalize fourL s.data.toList=F at*
 generalize sixL s.data.toList=S at*
 go_enter Tryz.func62,Tryz.ntmps62
 go_wp2_with fail
 refine Calls.mono (H6.out _) ?_
 rintro e w2 ⟨hb2,hc⟩
 have HX:=Lib.hid ((AdBox.made0 w 36 false).below hb2)
 have HW:=Lib.hid (Below.via (Below.all (Below.refl w.heap.size w) _) hb2)
 have hlt:=HX.out.lt
 clear hb2 H6
 rcases hc with ⟨l,hl,rfl⟩|⟨hl,rfl⟩
 ·have HR:Hid (parseOf F S=some (true,sixB l)):=Lib.hid (parseOf_some H46.out hl)
  generalize sixB l=C at*
  generalize parseOf F S=R at*
  clear hl
  unfold adV
  have hrr:=HX.out.row
  go_wp2_with fail
  exact bodyPost_ret (v:=.tuple #[adV true C,.int .i64 0]) (results_ad2 _ _ Tryz.underlying36 info_rad rfl _ _ w.heap.size (.int .i64 0) rfl rfl (part_up (s':=true) (B':=C) HX.out _ _ rfl)) rfl (.mk (by rw[HR.out];rfl) (Below.all (below_setRow HW.out (Nat.le_refl _) _) _))
 ·subst hl
  have HR:Hid (∀l,F=some l→parseOf F none=some (false,fourB l)):=Lib.hid fun l h=>by rw[h];rfl
  have HR0:Hid (F=none→parseOf F none=none):=Lib.hid fun h=>by rw[h];rfl
  generalize parseOf F none=R at*
  clear H46
  unfold adV
  have HX2:=Lib.hid (HX.out.alloc (.cells #[.bool false,.int .u8 ((fun _=>(0:Int)) 0),.int .u8 ((fun _=>(0:Int)) 1),.int .u8 ((fun _=>(0:Int)) 2),.int .u8 ((fun _=>(0:Int)) 3),.int .u8 ((fun _=>(0:Int)) 4),.int .u8 ((fun _=>(0:Int)) 5),.int .u8 ((fun _=>(0:Int)) 6),.int .u8 ((fun _=>(0:Int)) 7),.int .u8 ((fun _=>(0:Int)) 8),.int .u8 ((fun _=>(0:Int)) 9),.int .u8 ((fun _=>(0:Int)) 10),.int .u8 ((fun _=>(0:Int)) 11),.int .u8 ((fun _=>(0:Int)) 12),.int .u8 ((fun _=>(0:Int)) 13),.int .u8 ((fun _=>(0:Int)) 14),.int .u8 ((fun _=>(0:Int)) 15)] 36))
  have HW2:=Lib.hid (Below.all HW.out (.cells #[.bool false,.int .u8 ((fun _=>(0:Int)) 0),.int .u8 ((fun _=>(0:Int)) 1),.int .u8 ((fun _=>(0:Int)) 2),.int .u8 ((fun _=>(0:Int)) 3),.int .u8 ((fun _=>(0:Int)) 4),.int .u8 ((fun _=>(0:Int)) 5),.int .u8 ((fun _=>(0:Int)) 6),.int .u8 ((fun _=>(0:Int)) 7),.int .u8 ((fun _=>(0:Int)) 8),.int .u8 ((fun _=>(0:Int)) 9),.int .u8 ((fun _=>(0:Int)) 10),.int .u8 ((fun _=>(0:Int)) 11),.int .u8 ((fun _=>(0:Int)) 12),.int .u8 ((fun _=>(0:Int)) 13),.int .u8 ((fun _=>(0:Int)) 14),.int .u8 ((fun _=>(0:Int)) 15)] 36))
  clear HX HW hlt
  go_wp2_with fail
  generalize w2.alloc (.cells #[.bool false,.int .u8 ((fun _=>(0:Int)) 0),.int .u8 ((fun _=>(0:Int)) 1),.int .u8 ((fun _=>(0:Int)) 2),.int .u8 ((fun _=>(0:Int)) 3),.int .u8 ((fun _=>(0:Int)) 4),.int .u8 ((fun _=>(0:Int)) 5),.int .u8 ((fun _=>(0:Int)) 6),.int .u8 ((fun _=>(0:Int)) 7),.int .u8 ((fun _=>(0:Int)) 8),.int .u8 ((fun _=>(0:Int)) 9),.int .u8 ((fun _=>(0:Int)) 10),.int .u8 ((fun _=>(0:Int)) 11),.int .u8 ((fun _=>(0:Int)) 12),.int .u8 ((fun _=>(0:Int)) 13),.int .u8 ((fun _=>(0:Int)) 14),.int .u8 ((fun _=>(0:Int)) 15)] 36)=w3 at*
  refine Calls.mono (HCA.out _) ?_
  rintro e w4 ⟨op,capp,rfl,HO,HB⟩
  have HX:=Lib.hid (HX2.out.below HB)
  have HW:=Lib.hid (Below.via HW2.out HB)
  have hlt3:=HX2.out.lt
  have HOO:=Lib.hid (HO.mono (base':=w.heap.size+1) (by omega))
  have HOL:=Lib.hid (fun a ha=>(HO.lt (a:=a) ha).2)
  clear HO HB HX2 HW2 hlt3 HCA
  by_cases h4:P.length=4
  ·rw[h4] at HOO⊢
   have HP:=Lib.hid h4
   clear h4
   have HX5:=Lib.hid (HX.out.alloc (.cells #[.bool false,.int .u8 ((fun _=>(0:Int)) 0),.int .u8 ((fun _=>(0:Int)) 1),.int .u8 ((fun _=>(0:Int)) 2),.int .u8 ((fun _=>(0:Int)) 3),.int .u8 ((fun _=>(0:Int)) 4),.int .u8 ((fun _=>(0:Int)) 5),.int .u8 ((fun _=>(0:Int)) 6),.int .u8 ((fun _=>(0:Int)) 7),.int .u8 ((fun _=>(0:Int)) 8),.int .u8 ((fun _=>(0:Int)) 9),.int .u8 ((fun _=>(0:Int)) 10),.int .u8 ((fun _=>(0:Int)) 11),.int .u8 ((fun _=>(0:Int)) 12),.int .u8 ((fun _=>(0:Int)) 13),.int .u8 ((fun _=>(0:Int)) 14),.int .u8 ((fun _=>(0:Int)) 15)] 36))
   have HW5:=Lib.hid (Below.all HW.out (.cells #[.bool false,.int .u8 ((fun _=>(0:Int)) 0),.int .u8 ((fun _=>(0:Int)) 1),.int .u8 ((fun _=>(0:Int)) 2),.int .u8 ((fun _=>(0:Int)) 3),.int .u8 ((fun _=>(0:Int)) 4),.int .u8 ((fun _=>(0:Int)) 5),.int .u8 ((fun _=>(0:Int)) 6),.int .u8 ((fun _=>(0:Int)) 7),.int .u8 ((fun _=>(0:Int)) 8),.int .u8 ((fun _=>(0:Int)) 9),.int .u8 ((fun _=>(0:Int)) 10),.int .u8 ((fun _=>(0:Int)) 11),.int .u8 ((fun _=>(0:Int)) 12),.int .u8 ((fun _=>(0:Int)) 13),.int .u8 ((fun _=>(0:Int)) 14),.int .u8 ((fun _=>(0:Int)) 15)] 36))
   have HY5:=Lib.hid (AdBox.made0 w4 36 false)
   have HO5:=Lib.hid (HOO.out.alloc (.cells #[.bool false,.int .u8 ((fun _=>(0:Int)) 0),.int .u8 ((fun _=>(0:Int)) 1),.int .u8 ((fun _=>(0:Int)) 2),.int .u8 ((fun _=>(0:Int)) 3),.int .u8 ((fun _=>(0:Int)) 4),.int .u8 ((fun _=>(0:Int)) 5),.int .u8 ((fun _=>(0:Int)) 6),.int .u8 ((fun _=>(0:Int)) 7),.int .u8 ((fun _=>(0:Int)) 8),.int .u8 ((fun _=>(0:Int)) 9),.int .u8 ((fun _=>(0:Int)) 10),.int .u8 ((fun _=>(0:Int)) 11),.int .u8 ((fun _=>(0:Int)) 12),.int .u8 ((fun _=>(0:Int)) 13),.int .u8 ((fun _=>(0:Int)) 14),.int .u8 ((fun _=>(0:Int)) 15)] 36))
   have hW4:=HX.out.lt
   go_wp2_with fail
   clear HX HW HOO
   generalize w4.alloc (.cells #[.bool false,.int .u8 ((fun _=>(0:Int)) 0),.int .u8 ((fun _=>(0:Int)) 1),.int .u8 ((fun _=>(0:Int)) 2),.int .u8 ((fun _=>(0:Int)) 3),.int .u8 ((fun _=>(0:Int)) 4),.int .u8 ((fun _=>(0:Int)) 5),.int .u8 ((fun _=>(0:Int)) 6),.int .u8 ((fun _=>(0:Int)) 7),.int .u8 ((fun _=>(0:Int)) 8),.int .u8 ((fun _=>(0:Int)) 9),.int .u8 ((fun _=>(0:Int)) 10),.int .u8 ((fun _=>(0:Int)) 11),.int .u8 ((fun _=>(0:Int)) 12),.int .u8 ((fun _=>(0:Int)) 13),.int .u8 ((fun _=>(0:Int)) 14),.int .u8 ((fun _=>(0:Int)) 15)] 36)=w5 at*
   generalize w4.heap.size=b7 at*
   go_loopw [8] (fun u8 wr=>∃(k:Nat) (G:List Nat),k≤4∧u8=.int .i64 k∧Hid ((P.take k).mapM (decL 256)=some G)∧Hid (AdBox wr w.heap.size 36 false fun _=>0)∧Hid (AdBox wr b7 36 false (fourB G))∧Hid (Owns wr (w.heap.size+1) 1 op 4 capp (P.map strV))∧Hid (Below w.heap.size w wr)) (fun u8 _=>(4:Int)-intOf u8 |>.toNat)
   case atStart=>exact⟨0,[],by omega,rfl,Lib.hid rfl,HX5,Lib.hid (HY5.out.congr fun i _=>by simp[fourB]),HO5,HW5⟩
   case round=>
    obtain⟨k,G,hk,rfl,HG,HX,HY,HR1,HW⟩:=hrel
    by_cases hlt:k<4
    ·have hkP:k<P.length:=by rw[HP.out];exact hlt
     obtain⟨g,off,hop,hbg,hg,hc,ht⟩:=HR1.out.here (by omega)
     have hgb:=HOL.out _ hop
     subst hop
     simp only at hgb
     have hcl:=hc k (strV P[k]) (by simp[hkP])
     have hpl:=HPL.out P[k] (List.getElem_mem hkP)
     have HTS:=Lib.hid (show P.take (k+1)=P.take k++[P[k]] by rw[List.take_succ_eq_append_getElem hkP])
     have HMI:=Lib.hid (fun h=>mapM_miss (decL 256) P k hkP h)
     clear hc ht
     unfold strV at hcl
     generalize P[k]=p at*
     have hsz:(⟨p.toArray⟩:ByteArray).size=p.length:=by simp[ByteArray.size]
     have hpe:((⟨p.toArray⟩:ByteArray).data.toList)=p:=by simp
     have hp1:(⟨p.toArray⟩:ByteArray).size≤1000:=by omega
     have HNU:=Lib.hid (fun w=>number_any ⟨p.toArray⟩ 10 256 w hp1 (by decide) (by decide) (by decide))
     rw[hpe] at HNU
     clear hsz hpe hp1
     have hWr:=HW.out.size
     cases hn:numberL 10 256 p with
     |none=>
      rw[hn] at HNU
      have HF:Hid (F=none):=Lib.hid (by rw[HFL.out,if_pos HP.out];exact HMI.out (by unfold decL;rw[hn]))
      clear hn
      go_wp2_with fail
      refine Calls.mono (HNU.out wr) ?_
      rintro e w6 ⟨rfl,hb6⟩
      simp only[numV]
      have hcl2:=hb6.cell (p:=⟨g,off+k,none⟩) hg
      rw[hcl] at hcl2
      have HX6:=Lib.hid (HX.out.below hb6)
      have HW6:=Lib.hid (Below.via HW.out hb6)
      clear hb6
      go_wp2_with fail
      refine wp_region_later (by kernel_rfl) (by kernel_rfl) ?_
      repeat go_big_quiet_step (fail)
      refine wpQuiet_nil ?_
      intro x
      have HX7:=Lib.hid (HX6.out.below x.below)
      have HW7:=Lib.hid (Below.via HW6.out x.below)
      have hrr:=HX7.out.row
      have HH:=Lib.hid HX7.out.heap
      clear HX6 HW6
      go_wp2_with fail
      exact bodyPost_ret (v:=.tuple #[adV false fun _=>0,.int .i64 40]) (results_ad2 _ _ Tryz.underlying36 info_rad rfl _ _ w.heap.size (.int .i64 40) rfl rfl (partOf_set HH.out)) rfl (.mk (by rw[HR0.out HF.out];rfl) (below_setRow HW7.out (Nat.le_refl _) _))
     |some n=>
      rw[hn] at HNU
      have hn256:=numberL_bd (by decide) hn
      have HD:Hid (∀w,Calls Tryz.prog 73 #[.int .i64 (n:Int),.int .i64 10] w (RetAt w (.string ⟨(Lib.decDigits n).toArray⟩))):=Lib.hid fun w=>by
       have:=digits10_any n (n:Int) w (by omega) (by omega) (by omega)
       rwa [Int.toNat_natCast,digB_ten n n (Nat.le_refl _)] at this
      by_cases hq:Lib.decDigits n=p
      ·have hd:decL 256 p=some n:=by unfold decL;rw[hn];simp only;rw[if_pos hq]
       have HM:Hid ((P.take (k+1)).mapM (decL 256)=some (G++[n])):=Lib.hid (by rw[HTS.out];exact mapM_snoc _ _ _ _ _ HG.out hd)
       have HGk:Hid (G.length=k):=Lib.hid (by rw[mapM_len _ _ _ HG.out,List.length_take];omega)
       clear hd hn HG HTS HMI
       subst hq
       have hwn:IntKind.u8.wrap (n:Int)=n:=u8_wrap _ (by omega) (by omega)
       go_wp2_with fail
       refine Calls.mono (HNU.out wr) ?_
       rintro e w6 ⟨rfl,hb6⟩
       simp only[numV]
       have hcl2:=hb6.cell (p:=⟨g,off+k,none⟩) hg
       rw[hcl] at hcl2
       have hg6:g<w6.heap.size:=Nat.lt_of_lt_of_le hg hb6.size
       have HX6:=Lib.hid (HX.out.below hb6)
       have HY6:=Lib.hid (HY.out.below hb6)
       have HR6:=Lib.hid (HR1.out.below hb6)
       have HW6:=Lib.hid (Below.via HW.out hb6)
       clear hb6 HX HY HR1 HW hcl
       go_wp2_with fail
       refine wp_region_later (by kernel_rfl) (by kernel_rfl) ?_
       repeat go_big_quiet_step ((go_at_call 73;exact later_call (HD.out _)))
       refine wpQuiet_nil ?_
       intro x
       have HX7:=Lib.hid (HX6.out.below x.below)
       have HY7:=Lib.hid (HY6.out.below x.below)
       have HR7:=Lib.hid (HR6.out.below x.below)
       have HW7:=Lib.hid (Below.via HW6.out x.below)
       have hcx:=HY7.out.cell k (by omega)
       have hfx:=HY7.out.free (1+k)
       clear HX6 HY6 HR6 HW6
       go_wp2_with fail
       go_roundw
       case rel=>
        refine⟨k+1,G++[n],by omega,by go_num,HM,Lib.hid (HX7.out.other _ _ (by simp only;omega)),Lib.hid ((HY7.out.set k (by omega) n).congr fun i _=>(fourB_snoc G n k HGk.out i).symm),Lib.hid (HR7.out.other (fun a ha=>by cases ha;simp only;omega) _),Lib.hid (HW7.out.setCell (by simp only;omega) _)⟩
       case measure=>simp[intOf];omega
      ·have HF:Hid (F=none):=Lib.hid (by rw[HFL.out,if_pos HP.out];exact HMI.out (by unfold decL;rw[hn];simp only;rw[if_neg hq]))
       have hqb:(Lib.decDigits n==p)=false:=by simpa using hq
       clear hn HG HTS HMI
       go_wp2_with fail
       refine Calls.mono (HNU.out wr) ?_
       rintro e w6 ⟨rfl,hb6⟩
       simp only[numV]
       have hcl2:=hb6.cell (p:=⟨g,off+k,none⟩) hg
       rw[hcl] at hcl2
       have hg6:g<w6.heap.size:=Nat.lt_of_lt_of_le hg hb6.size
       have HX6:=Lib.hid (HX.out.below hb6)
       have HY6:=Lib.hid (HY.out.below hb6)
       have HR6:=Lib.hid (HR1.out.below hb6)
       have HW6:=Lib.hid (Below.via HW.out hb6)
       clear hb6 HX HY HR1 HW hcl
       go_wp2_with fail
       refine wp_region_later (by kernel_rfl) (by kernel_rfl) ?_
       repeat go_big_quiet_step ((go_at_call 73;exact later_call (HD.out _)))
       refine wpQuiet_nil ?_
       intro x
       have HX7:=Lib.hid (HX6.out.below x.below)
       have HW7:=Lib.hid (Below.via HW6.out x.below)
       have hrr:=HX7.out.row
       have HH:=Lib.hid HX7.out.heap
       clear HX6 HW6
       go_wp2_with fail
       exact bodyPost_ret (v:=.tuple #[adV false fun _=>0,.int .i64 40]) (results_ad2 _ _ Tryz.underlying36 info_rad rfl _ _ w.heap.size (.int .i64 40) rfl rfl (partOf_set HH.out)) rfl (.mk (by rw[HR0.out HF.out];rfl) (below_setRow HW7.out (Nat.le_refl _) _))
    ·obtain rfl:k=4:=by omega
     have HFF:Hid (F=some G):=Lib.hid (by
      have:=HG.out
      rw[List.take_of_length_le (by rw[HP.out];exact Nat.le_refl _)] at this
      rw[HFL.out,if_pos HP.out,this])
     have hpp:=HY.out.part
     have hrr:=HX.out.row
     have HH:=Lib.hid HX.out.heap
     go_wp2_with fail
     exact bodyPost_ret (v:=.tuple #[adV false (fourB G),.int .i64 0]) (results_ad2 _ _ Tryz.underlying36 info_rad rfl _ _ w.heap.size (.int .i64 0) rfl rfl (partOf_set HH.out)) rfl (.mk (by rw[HR.out _ HFF.out];rfl) (below_setRow HW.out (Nat.le_refl _) _))
  ·have h5:((P.length:Int)==4)=false:=by simp;omega
   have HF:Hid (F=none):=Lib.hid (by rw[HFL.out,if_neg h4])
   have hrr:=HX.out.row
   have HH:=Lib.hid HX.out.heap
   have hln:=HPC.out
   have hln2:¬((P.length:Int)=4):=by omega
   generalize P.length=nP at*
   go_wp2_with fail
   refine bodyPost_ret (v:=.tuple #[adV false fun _=>0,.int .i64 40]) (results_ad2 _ _ Tryz.underlying36 info_rad rfl _ _ w.heap.size (.int .i64 40) rfl rfl (partOf_set HH.out)) rfl (.mk (by rw[HR0.out HF.out];rfl) (below_setRow HW.out (Nat.le_refl _) _))
theorem parseV_cases (s:List UInt8):(∃(six:Bool) (B:Nat→Int),parseL s=some (six,B)∧rightB six B=true∧U8 B∧parseV (parseL s)=.tuple #[adV six B,.int .i64 0])∨(parseL s=none∧parseV (parseL s)=.tuple #[adV false fun _=>0,.int .i64 40]):=by
 cases h:parseL s with
 |none=>exact .inr ⟨rfl,rfl⟩
 |some p=>
  obtain⟨six,B⟩:=p
  have:=parseL_right h
  exact .inl ⟨six,B,rfl,this.1,this.2,rfl⟩
end
section
open Go.Lib Go.RowKit
theorem joinL_mem (x c:UInt8):∀L:List (List UInt8),x∈joinL c L→x=c∨∃p∈L,x∈p
 |[],h=>by simp[joinL] at h
 |[p],h=>.inr ⟨p,by simp,by simpa[joinL] using h⟩
 |p::q::l,h=>by
  rw[joinL_cons2] at h
  rcases List.mem_append.1 h with h|h
  ·exact .inr ⟨p,by simp,h⟩
  ·rcases List.mem_cons.1 h with h|h
   ·exact .inl h
   ·rcases joinL_mem x c (q::l) h with h|⟨r,hr,hx⟩
    ·exact .inl h
    ·exact .inr ⟨r,by simp at hr⊢;exact .inr hr,hx⟩
theorem dec3:∀b:Fin 256,(Lib.decDigits b).length≤3:=by decide+kernel
theorem adText_max (s:Bool)(B:Nat→Int)(hB:U8 B):(adText s B).length≤100:=by
 unfold adText
 split
 ·split
  ·have hp:∀p∈(List.range 8).map fun i=>digB 16 (grpN B i),p.length≤4:=fun p hp=>by
    obtain⟨i,-,rfl⟩:=List.mem_map.1 hp
    exact digB16_len _ (grpN_lt hB i)
   rw[text6_of]
   split
   ·exact Nat.le_trans (joinL_len 58 4 _ hp) (by simp)
   ·have h1:=joinL_len 58 4 (((List.range 8).map fun i=>digB 16 (grpN B i)).take (noughtsZ (zg (grpN B))).1) (fun p h=>hp p (List.mem_of_mem_take h))
    have h2:=joinL_len 58 4 (((List.range 8).map fun i=>digB 16 (grpN B i)).drop (noughtsZ (zg (grpN B))).2) (fun p h=>hp p (List.mem_of_mem_drop h))
    rw[List.length_take,List.length_map,List.length_range] at h1
    rw[List.length_drop,List.length_map,List.length_range] at h2
    simp only[List.length_append,List.length_cons,List.length_nil]
    have h3:min (noughtsZ (zg (grpN B))).1 8*(4+1)≤40:=by have:=Nat.min_le_right (noughtsZ (zg (grpN B))).1 8;omega
    have h4:(8-(noughtsZ (zg (grpN B))).2)*(4+1)≤40:=by omega
    omega
  ·refine Nat.le_trans (joinL_len 46 3 _ fun p hp=>?_) (by simp)
   obtain⟨i,-,rfl⟩:=List.mem_map.1 hp
   have:=hB i
   exact dec3 ⟨(B i).toNat,by omega⟩
 ·simp
section
end
end
section
def tHead (p:Int):Nat:=if p=6 then 20 else if p=17 then 8 else if p=1∨p=58 then 4 else 0
def tcpN (l:List Int):Nat:=(l.getD 12 0/16).toNat*4
def tErr (p:Int)(l:List Int):Int:=
 if tHead p=0 then 70 else if l.length<tHead p then 10 else if 65535<l.length then 51
 else if p=6 then (if tcpN l<20 then 51 else if l.length<tcpN l then 10 else 0)
 else if p=17 then (if w2 l 4<8 then 51 else if (l.length:Int)<w2 l 4 then 10 else 0) else 0
structure Seg where
 proto:Int
 src:Int
 dst:Int
 seq:Int
 ack:Int
 flags:Int
 win:Int
 urg:Int
 opt:List Int
 type:Int
 code:Int
 data:List Int
def segZ:Seg:=⟨0,0,0,0,0,0,0,0,[],0,0,[]⟩
def tSeg (p:Int)(l:List Int):Seg:=
 if p=6 then ⟨6,w2 l 0,w2 l 2,w4 l 4,w4 l 8,l.getD 13 0,w2 l 14,w2 l 18,(l.take (tcpN l)).drop 20,0,0,l.drop (tcpN l)⟩
 else if p=17 then ⟨17,w2 l 0,w2 l 2,0,0,0,0,0,[],0,0,(l.take (w2 l 4).toNat).drop 8⟩
 else ⟨p,0,0,0,0,0,0,0,[],l.getD 0 0,l.getD 1 0,l.drop 4⟩
def tParse (p:Int)(l:List Int):Seg:=if tErr p l=0 then tSeg p l else segZ
def tStands (p a b f n c:Int)(data:List Int):List Int:=
 if p=6 then be2 a++be2 b++[0,0,0,0,0,0,0,0,80,f,0,0]++be2 c++[0,0]++data
 else if p=17 then be2 a++be2 b++be2 n++be2 c++data
 else [a,b]++be2 c++data
def pseudoL (p:Int)(n:Int)(src dst:List Int):List Int:=
 if p=1 then [] else if src.length=4 then src++dst++[0,p]++be2 n else src++dst++[0,0]++be2 n++[0,0,0,p]
def tSum (p a b f n:Int)(data src dst:List Int):Int:=
 let c:Int:=sumOf (pseudoL p n src dst++tStands p a b f n 0 data)
 if c=0∧p=17 then 65535 else c
def tPut (p a b f:Int)(data src dst:List Int):List Int:=
 let n:Int:=(tHead p+data.length:Nat)
 tStands p a b f n (tSum p a b f n data src dst) data
structure Outer where
 six:Bool
 src:Nat→Int
 dst:Nat→Int
 proto:Int
 len:Int
 frag:Bool
 more:Bool
 body:List Int
def sxChain (l:List Int):ChAll:=chRun 17 [] (l.getD 6 0) 0 ((l.drop 40).take (w2 l 4).toNat)
def sxBodyErr (l:List Int):Int:=if sxErr l≠0 then sxErr l else if (l.length:Int)<40+w2 l 4 then 10 else match sxChain l with
 | .err e=>e
 | .done _ _ _=>0
def sxExts (l:List Int):ExtL:=match sxChain l with
 | .err _=>[]
 | .done xs _ _=>xs
def sxProto (l:List Int):Int:=match sxChain l with
 | .err _=>0
 | .done _ p _=>p
def sxAt (l:List Int):Nat:=match sxChain l with
 | .err _=>0
 | .done _ _ i=>i
def sxBodyL (l:List Int):List Int:=((l.drop 40).take (w2 l 4).toNat).drop (sxAt l)
def outFour (l:List Int):Outer:=⟨false,fromB ((l.drop 12).take 4),fromB ((l.drop 16).take 4),l.getD 9 0,w2 l 2,decide (0<w2 l 6%8192),(w2 l 6/8192%2==1),ipBody l⟩
def outSix (l:List Int):Outer:=⟨true,fromB ((l.drop 8).take 16),fromB ((l.drop 24).take 16),sxProto l,40+w2 l 4,decide (0<fragOff (sxExts l)),fragMore (sxExts l),sxBodyL l⟩
def isPorts (p:Int):Bool:=p==6||p==17
def isIcmp (p:Int):Bool:=p==1||p==58
structure Upper where
 err:Int
 src:Int
 dst:Int
 flags:Int
def upWhole (p:Int)(l:List Int):Upper:=let s:=tParse p l;⟨tErr p l,s.src,if isIcmp p then s.type*256+s.code else s.dst,s.flags⟩
def upPart (p:Int)(l:List Int):Upper:=
 if isIcmp p then (if l.length<2 then ⟨10,0,0,0⟩ else ⟨0,0,w2 l 0,0⟩)
 else (if l.length<4 then ⟨10,0,0,0⟩ else ⟨0,w2 l 0,w2 l 2,if p=6∧14≤l.length then l.getD 13 0 else 0⟩)
def upOf (o:Outer):Upper:=if (isPorts o.proto||isIcmp o.proto)&&!o.frag then (if o.more then upPart o.proto o.body else upWhole o.proto o.body) else ⟨0,0,0,0⟩
structure Pk where
 six:Bool
 src:Nat→Int
 dst:Nat→Int
 proto:Int
 sp:Int
 dp:Int
 len:Int
 flags:Int
 frag:Bool
def pkZ:Pk:=⟨false,fun _=>0,fun _=>0,0,0,0,0,0,false⟩
def pkOut (o:Outer)(u:Upper):Pk:=⟨o.six,o.src,o.dst,o.proto,u.src,u.dst,o.len,u.flags,o.frag⟩
def pkErr (l:List Int):Int:=
 if 2048<l.length then 3 else if l.length=0 then 10
 else if l.getD 0 0/16=4 then (if ipBodyErr l≠0 then ipBodyErr l else (upOf (outFour l)).err)
 else if l.getD 0 0/16=6 then (if sxBodyErr l≠0 then sxBodyErr l else (upOf (outSix l)).err) else 50
def pkOf (l:List Int):Pk:=
 if pkErr l≠0 then pkZ else if l.getD 0 0/16=4 then pkOut (outFour l) (upOf (outFour l)) else pkOut (outSix l) (upOf (outSix l))
def pkCells (k:Pk):Array Value:=#[.bool k.six,.int .u8 (k.src 0),.int .u8 (k.src 1),.int .u8 (k.src 2),.int .u8 (k.src 3),.int .u8 (k.src 4),.int .u8 (k.src 5),.int .u8 (k.src 6),.int .u8 (k.src 7),.int .u8 (k.src 8),.int .u8 (k.src 9),.int .u8 (k.src 10),.int .u8 (k.src 11),.int .u8 (k.src 12),.int .u8 (k.src 13),.int .u8 (k.src 14),.int .u8 (k.src 15),.bool k.six,.int .u8 (k.dst 0),.int .u8 (k.dst 1),.int .u8 (k.dst 2),.int .u8 (k.dst 3),.int .u8 (k.dst 4),.int .u8 (k.dst 5),.int .u8 (k.dst 6),.int .u8 (k.dst 7),.int .u8 (k.dst 8),.int .u8 (k.dst 9),.int .u8 (k.dst 10),.int .u8 (k.dst 11),.int .u8 (k.dst 12),.int .u8 (k.dst 13),.int .u8 (k.dst 14),.int .u8 (k.dst 15),.int .u8 k.proto,.int .u16 k.sp,.int .u16 k.dp,.int .i64 k.len,.int .u8 k.flags,.bool k.frag]
def pkR (l:List Int):Value:=.tuple #[.agg (pkCells (pkOf l)),.int .i64 (pkErr l)]
end
end Go.Proofs.YtkgjbipfhhjlpaaGreatDoor
namespace Go.Proofs.YtkgjbipfhhjlpaaGreatDoor.Bits
open Go.RowKit
theorem dec_mk' {p:Prop}[Decidable p]{b:Bool}(h:b=true↔p):b=decide p:=by rw[Bool.eq_iff_iff,h];simp
def rightB (n:Int):Bool:=decide (1≤n∧n≤8)
theorem right_any (n:Int)(w:World):Calls Tryz.prog 142 #[.int .i64 n] w (RetAt w (.bool (rightB n))):=by
 go_enter Tryz.func142,Tryz.ntmps142
 go_wp2
 all_goals go_ret
 all_goals refine .mk (val_bool (dec_mk' ?_)) (by go_grown)
 all_goals simp
 all_goals omega
theorem least_any (v:Int)(n:Nat)(h0:0≤v)(h1:v<256^n)(hn1:1≤n)(hn:n≤8)(w:World):
 Calls Tryz.prog 176 #[.int .u64 v] w (fun e w'=>∃k:Int,e=.returned (.int .i64 k)∧1≤k∧k≤n∧Below w.heap.size w w'):=by
 go_enter Tryz.func176,Tryz.ntmps176
 go_wp2_with fail
 have hv:v/256<256^(n-1):=by
  obtain⟨m,rfl⟩:∃m,n=m+1:=⟨n-1,by omega⟩
  rw[Int.pow_succ] at h1
  simp only[Nat.add_sub_cancel]
  generalize (256:Int)^m=p at*
  omega
 have HV:=Lib.hid hv
 clear hv h1
 go_loopw [0,3] (fun u0 u3 wr=>∃(x k:Int) (m:Nat),u0=.int .u64 x∧u3=.int .i64 k∧0≤x∧Hid (x<256^m)∧1≤k∧k+m=n∧Below w.heap.size w wr) (fun u0 _ _=>(intOf u0).toNat)
 case atStart=>exact⟨v/256,1,n-1,rfl,rfl,by omega,HV,by omega,by omega,Below.refl _ _⟩
 case round=>
  obtain⟨x,k,m,rfl,rfl,hx,HX,hk,hkm,hb⟩:=hrel
  by_cases hx0:0<x
  ·obtain⟨m,rfl⟩:∃m',m=m'+1:=by
    refine⟨m-1,?_⟩
    have:=HX.out
    rcases Nat.eq_zero_or_pos m with e|e
    ·subst e;simp at this;omega
    ·omega
   have hx2:x/256<256^m:=by
    have:=HX.out
    rw[Int.pow_succ] at this
    generalize (256:Int)^m=p at*
    omega
   have HX2:=Lib.hid hx2
   clear hx2
   go_wp2_with fail
   go_roundw
   case rel=>exact⟨x/256,k+1,m,by go_num,by go_num,by omega,HX2,by omega,by omega,hb⟩
   case measure=>simp[intOf];omega
  ·go_wp2_with fail
   go_ret
   exact⟨k,rfl,hk,by omega,hb⟩
theorem fits_any (v:Int)(n:Nat)(h0:0≤v)(h1:v<256^n)(hn1:1≤n)(hn:n≤8)(w:World):
 Calls Tryz.prog 124 #[.int .u64 v,.int .i64 n] w (RetAt w (.bool true)):=by
 have hr:rightB n=true:=by simp[rightB];omega
 go_enter Tryz.func124,Tryz.ntmps124
 go_wp2_with (go_at_call 142;refine Calls.later (right_any _ _) ?_;intro x;rw[hr])
 refine Calls.mono (least_any v n h0 h1 hn1 hn _) ?_
 rintro e w' ⟨k,rfl,hk1,hk2,hb⟩
 go_wp2_with fail
 go_ret
 refine .mk (val_bool ?_) (x.below.trans (hb.mono x.below.size))
 first|(simp;done)|(simp;omega)
def be4 (v:Int):List Int:=[v/16777216%256,v/65536%256,v/256%256,v%256]
theorem infoU8:(Tryz.prog.info? 5).map (fun i=>(i.zero,i.size,i.bytes))=some (some (.int .u8 0),1,1):=by kernel_rfl
theorem make1 (w:World):(Instr.makeSlice 22 (.int .i64 1) (.int .i64 1)).run Tryz.prog w=.ok (.slice (some ⟨w.heap.size,0,none⟩) 1 1) (w.alloc (.cells #[.int .u8 0] 5)):=
 (run_make_row' 22 5 (.int .u8 0) 1 Tryz.underlying22 infoU8 rfl .i64 .i64 1 (by decide) (by decide) w).trans (by rw[show madeCells #[Value.int .u8 0] 1=#[.int .u8 0] from by kernel_rfl])
theorem make4 (w:World):(Instr.makeSlice 22 (.int .i64 4) (.int .i64 4)).run Tryz.prog w=.ok (.slice (some ⟨w.heap.size,0,none⟩) 4 4) (w.alloc (.cells #[.int .u8 0,.int .u8 0,.int .u8 0,.int .u8 0] 5)):=
 (run_make_row' 22 5 (.int .u8 0) 1 Tryz.underlying22 infoU8 rfl .i64 .i64 4 (by decide) (by decide) w).trans (by rw[show madeCells #[Value.int .u8 0] 4=#[.int .u8 0,.int .u8 0,.int .u8 0,.int .u8 0] from by kernel_rfl])
theorem of1_any (v:Int)(h0:0≤v)(h1:v<256)(w:World):Calls Tryz.prog 125 #[.int .u64 v,.int .i64 1] w (NewBytes w ([v])):=by
 have hm:=make1
 go_enter Tryz.func125,Tryz.ntmps125
 go_wp2_with fail
 refine wp_loop_rounds 2 ?_
 rw[rounds_succ]
 go_wp2_with fail
 rw[rounds_succ]
 go_wp2_with fail
 go_ret
 refine⟨_,_,rfl,?_,?_⟩
 ·refine Owns.made _ 1 1 5 _ (Nat.le_refl _) (Nat.le_refl 1) (Nat.le_refl 1) (by decide) ?_
  simp[List.take]
  all_goals omega
 ·exact(Below.refl _ _).alloc (Nat.le_refl _) _
theorem of4_any (v:Int)(h0:0≤v)(h1:v<4294967296)(w:World):Calls Tryz.prog 125 #[.int .u64 v,.int .i64 4] w (NewBytes w (be4 v)):=by
 have hm:=make4
 go_enter Tryz.func125,Tryz.ntmps125
 go_wp2_with fail
 refine wp_loop_rounds 5 ?_
 rw[rounds_succ]
 go_wp2_with fail
 rw[rounds_succ]
 go_wp2_with fail
 rw[rounds_succ]
 go_wp2_with fail
 rw[rounds_succ]
 go_wp2_with fail
 rw[rounds_succ]
 go_wp2_with fail
 go_ret
 refine⟨_,_,rfl,?_,?_⟩
 ·refine Owns.made _ 4 4 5 _ (Nat.le_refl _) (Nat.le_refl 4) (Nat.le_refl 4) (by decide) ?_
  simp[be4]
  all_goals omega
 ·exact(Below.refl _ _).alloc (Nat.le_refl _) _
end Go.Proofs.YtkgjbipfhhjlpaaGreatDoor.Bits
namespace Go.Proofs.YtkgjbipfhhjlpaaGreatDoor
section
open Bits
structure Ky where
 s:Bool
 S:Nat→Int
 t:Bool
 T:Nat→Int
 p:Int
 a:Int
 b:Int
structure KyOk (k:Ky):Prop where
 S:U8 k.S
 T:U8 k.T
 p:0≤k.p∧k.p<256
 a:0≤k.a∧k.a<65536
 b:0≤k.b∧k.b<65536
def kyC (s:Bool)(S:Nat→Int)(t:Bool)(T:Nat→Int)(p a b:Int):Array Value:=#[.bool s,.int .u8 (S 0),.int .u8 (S 1),.int .u8 (S 2),.int .u8 (S 3),.int .u8 (S 4),.int .u8 (S 5),.int .u8 (S 6),.int .u8 (S 7),.int .u8 (S 8),.int .u8 (S 9),.int .u8 (S 10),.int .u8 (S 11),.int .u8 (S 12),.int .u8 (S 13),.int .u8 (S 14),.int .u8 (S 15),.bool t,.int .u8 (T 0),.int .u8 (T 1),.int .u8 (T 2),.int .u8 (T 3),.int .u8 (T 4),.int .u8 (T 5),.int .u8 (T 6),.int .u8 (T 7),.int .u8 (T 8),.int .u8 (T 9),.int .u8 (T 10),.int .u8 (T 11),.int .u8 (T 12),.int .u8 (T 13),.int .u8 (T 14),.int .u8 (T 15),.int .u8 p,.int .u16 a,.int .u16 b]
def kyV (k:Ky):Array Value:=kyC k.s k.S k.t k.T k.p k.a k.b
def kyZ:Ky:=⟨false,fun _=>0,false,fun _=>0,0,0,0⟩
def kyPlain (p a b:Int):Bool:=isPorts p||(a==0&&(isIcmp p||b==0))
def kyRight (k:Ky):Bool:=rightB k.s k.S&&(rightB k.t k.T&&(k.s==k.t&&kyPlain k.p k.a k.b))
def kyBytes (k:Ky):List Int:=if kyRight k then [if k.s then 6 else 4]++adBytes k.s k.S++adBytes k.t k.T++[k.p]++be2 k.a++be2 k.b else []
def kyText (k:Ky):List UInt8:=if kyRight k then joinL 32 [Lib.decDigits k.p.toNat,adText k.s k.S,Lib.decDigits k.a.toNat,adText k.t k.T,Lib.decDigits k.b.toNat] else []
def kyCmp (k m:Ky):Int:=Lib.compareBytes (Lib.bytesOf (kyBytes k)) (Lib.bytesOf (kyBytes m))
structure Sp where
 k:Ky
 f:Int
 n:Int
structure SpOk (s:Sp):Prop where
 k:KyOk s.k
 f:0≤s.f∧s.f<256
 n:-9223372036854775808≤s.n∧s.n≤9223372036854775807
def spV (s:Sp):Array Value:=#[.bool s.k.s,.int .u8 (s.k.S 0),.int .u8 (s.k.S 1),.int .u8 (s.k.S 2),.int .u8 (s.k.S 3),.int .u8 (s.k.S 4),.int .u8 (s.k.S 5),.int .u8 (s.k.S 6),.int .u8 (s.k.S 7),.int .u8 (s.k.S 8),.int .u8 (s.k.S 9),.int .u8 (s.k.S 10),.int .u8 (s.k.S 11),.int .u8 (s.k.S 12),.int .u8 (s.k.S 13),.int .u8 (s.k.S 14),.int .u8 (s.k.S 15),.bool s.k.t,.int .u8 (s.k.T 0),.int .u8 (s.k.T 1),.int .u8 (s.k.T 2),.int .u8 (s.k.T 3),.int .u8 (s.k.T 4),.int .u8 (s.k.T 5),.int .u8 (s.k.T 6),.int .u8 (s.k.T 7),.int .u8 (s.k.T 8),.int .u8 (s.k.T 9),.int .u8 (s.k.T 10),.int .u8 (s.k.T 11),.int .u8 (s.k.T 12),.int .u8 (s.k.T 13),.int .u8 (s.k.T 14),.int .u8 (s.k.T 15),.int .u8 s.k.p,.int .u16 s.k.a,.int .u16 s.k.b,.int .u8 s.f,.int .i64 s.n]
def zerosL (n:Nat):List Int:=List.replicate n 0
def spBad (s:Sp):Bool:=!(kyRight s.k)||((s.k.s&&behindB s.k.p)||((s.f != 0&&s.k.p != 6)||decide (s.n<0)))
def spBody (s:Sp):List Int:=
 let d:=zerosL s.n.toNat
 let src:=adBytes s.k.s s.k.S
 let dst:=adBytes s.k.t s.k.T
 if isPorts s.k.p then tPut s.k.p s.k.a s.k.b s.f d src dst
 else if isIcmp s.k.p then tPut s.k.p (s.k.b/256) (s.k.b%256) 0 d src dst else d
def spFour (s:Sp)(n:Nat):IpH:=⟨0,20+(n:Int),0,false,false,0,64,s.k.p,adBytes false s.k.S,adBytes false s.k.T,[]⟩
def spSix (s:Sp)(n:Nat):List Int:=be4 1610612736++be2 (n:Int)++[s.k.p,64]++adBytes true s.k.S++adBytes true s.k.T
def spHead (s:Sp):List Int:=if s.k.s then spSix s (spBody s).length else ipPut (spFour s (spBody s).length)
def spErr (s:Sp):Int:=if spBad s then 2 else if 2048<s.n then 3 else if 2048<(spHead s++spBody s).length then 3 else 0
def spL (s:Sp):List Int:=if spErr s=0 then spHead s++spBody s else []
open Go.RowKit
theorem oneL_slice (a:Option Addr)(n c:Nat)(r:List Value):oneL (.slice a n c::r)=oneL r:=by rw[oneL];rfl
theorem oneL_func (f:Fn)(a b:Array Value)(r:List Value):oneL (.func f a b::r)=oneL r:=by rw[oneL];rfl
attribute [go_sem] oneL_slice oneL_func
theorem partOf_cells4 {w:World}{b off:Nat}{v0 v1 v2 v3:Value}(h0:w.cell? ⟨b,off,none⟩=some v0)(h1:w.cell? ⟨b,off+1,none⟩=some v1)(h2:w.cell? ⟨b,off+2,none⟩=some v2)(h3:w.cell? ⟨b,off+3,none⟩=some v3):partOf w b off 4=#[v0,v1,v2,v3]:=by
 unfold World.cell? at h0 h1 h2 h3
 unfold partOf
 cases hh:w.heap[b]? with
 |none=>rw[hh] at h0;simp at h0
 |some ob=>
  rw[hh] at h0 h1 h2 h3
  cases ob with
  |cells cs t fr=>
   simp only at h0 h1 h2 h3⊢
   have g0:cs[off]? =some v0:=by simpa using h0
   have g1:cs[off+1]? =some v1:=by simpa using h1
   have g2:cs[off+2]? =some v2:=by simpa using h2
   have g3:cs[off+3]? =some v3:=by simpa using h3
   have hs:off+3<cs.size:=(Array.getElem?_eq_some_iff.1 g3).1
   apply Array.ext_getElem?
   intro j
   rw[Array.getElem?_extract]
   rcases j with _|_|_|_|j
   ·simp[g0];omega
   ·simp[g1];omega
   ·simp[g2];omega
   ·simp[g3];omega
   ·simp;omega
  |_=>simp at h0
theorem exec_load_ar4 (ev:Operand→Value)(w:World)(dst:Option Tmp)(t:TypeId)(pos:String)(after:Array Edge)(g:Option (Nat×Bool))(x:Operand):(execOp ev ⟨dst,.load 111 x,t,pos,after,g⟩).run Tryz.prog w=ldRun Tryz.prog 111 w (ev x):=exec_load _ ev w dst t pos after g x _
theorem run_load_ar4 (w:World)(b off:Nat)(hs:(partOf w b off 4).size=4):ldRun Tryz.prog 111 w (.pointer (some ⟨b,off,none⟩))=.ok (.value (.agg (partOf w b off 4))) w:=
 run_exec_load _ w none 0 "" #[] none _ _ 4 _ Tryz.underlying111 rfl (by kernel_rfl) (by decide) hs
theorem exec_load_iph (ev:Operand→Value)(w:World)(dst:Option Tmp)(t:TypeId)(pos:String)(after:Array Edge)(g:Option (Nat×Bool))(x:Operand):(execOp ev ⟨dst,.load 113 x,t,pos,after,g⟩).run Tryz.prog w=ldRun Tryz.prog 113 w (ev x):=exec_load _ ev w dst t pos after g x _
theorem run_load_iph (w:World)(b off:Nat)(hs:(partOf w b off 17).size=17):ldRun Tryz.prog 113 w (.pointer (some ⟨b,off,none⟩))=.ok (.value (.agg (partOf w b off 17))) w:=
 run_exec_load _ w none 0 "" #[] none _ _ 17 _ Tryz.underlying113 rfl (by kernel_rfl) (by decide) hs
theorem exec_store_iph (ev:Operand→Value)(w:World)(dst:Option Tmp)(t:TypeId)(pos:String)(after:Array Edge)(g:Option (Nat×Bool))(x y:Operand):(execOp ev ⟨dst,.store 113 x y,t,pos,after,g⟩).run Tryz.prog w=stRun Tryz.prog 113 w (ev x) (ev y):=exec_store _ ev w dst t pos after g x y _
theorem run_store_iph (w:World)(b:Nat)(cs:Array Value)(hx:rowFree w b 17=true)(hs:cs.size=17)(h1:oneL cs.toList=true):stRun Tryz.prog 113 w (.pointer (some ⟨b,0,none⟩)) (.agg cs)=.ok .skip (w.setRow b cs):=
 run_exec_store _ w none 0 "" #[] none _ _ _ 17 (by kernel_rfl) hx (by show aggOk _ (.agg cs)=true;rw[aggOk_agg,←Array.all_toList,oneL_all _ h1,hs];simp)
theorem info_iph:(Tryz.prog.info? 113).map (·.size)=some 17:=by kernel_rfl
theorem exec_load_seg (ev:Operand→Value)(w:World)(dst:Option Tmp)(t:TypeId)(pos:String)(after:Array Edge)(g:Option (Nat×Bool))(x:Operand):(execOp ev ⟨dst,.load 149 x,t,pos,after,g⟩).run Tryz.prog w=ldRun Tryz.prog 149 w (ev x):=exec_load _ ev w dst t pos after g x _
theorem run_load_seg (w:World)(b off:Nat)(hs:(partOf w b off 12).size=12):ldRun Tryz.prog 149 w (.pointer (some ⟨b,off,none⟩))=.ok (.value (.agg (partOf w b off 12))) w:=
 run_exec_load _ w none 0 "" #[] none _ _ 12 _ Tryz.underlying149 rfl (by kernel_rfl) (by decide) hs
theorem exec_store_seg (ev:Operand→Value)(w:World)(dst:Option Tmp)(t:TypeId)(pos:String)(after:Array Edge)(g:Option (Nat×Bool))(x y:Operand):(execOp ev ⟨dst,.store 149 x y,t,pos,after,g⟩).run Tryz.prog w=stRun Tryz.prog 149 w (ev x) (ev y):=exec_store _ ev w dst t pos after g x y _
theorem run_store_seg (w:World)(b:Nat)(cs:Array Value)(hx:rowFree w b 12=true)(hs:cs.size=12)(h1:oneL cs.toList=true):stRun Tryz.prog 149 w (.pointer (some ⟨b,0,none⟩)) (.agg cs)=.ok .skip (w.setRow b cs):=
 run_exec_store _ w none 0 "" #[] none _ _ _ 12 (by kernel_rfl) hx (by show aggOk _ (.agg cs)=true;rw[aggOk_agg,←Array.all_toList,oneL_all _ h1,hs];simp)
theorem info_seg:(Tryz.prog.info? 149).map (·.size)=some 12:=by kernel_rfl
theorem exec_load_key (ev:Operand→Value)(w:World)(dst:Option Tmp)(t:TypeId)(pos:String)(after:Array Edge)(g:Option (Nat×Bool))(x:Operand):(execOp ev ⟨dst,.load 30 x,t,pos,after,g⟩).run Tryz.prog w=ldRun Tryz.prog 30 w (ev x):=exec_load _ ev w dst t pos after g x _
theorem run_load_key (w:World)(b off:Nat)(hs:(partOf w b off 37).size=37):ldRun Tryz.prog 30 w (.pointer (some ⟨b,off,none⟩))=.ok (.value (.agg (partOf w b off 37))) w:=
 run_exec_load _ w none 0 "" #[] none _ _ 37 _ Tryz.underlying30 rfl (by kernel_rfl) (by decide) hs
theorem exec_store_key (ev:Operand→Value)(w:World)(dst:Option Tmp)(t:TypeId)(pos:String)(after:Array Edge)(g:Option (Nat×Bool))(x y:Operand):(execOp ev ⟨dst,.store 30 x y,t,pos,after,g⟩).run Tryz.prog w=stRun Tryz.prog 30 w (ev x) (ev y):=exec_store _ ev w dst t pos after g x y _
theorem run_store_key (w:World)(b:Nat)(cs:Array Value)(hx:rowFree w b 37=true)(hs:cs.size=37)(h1:oneL cs.toList=true):stRun Tryz.prog 30 w (.pointer (some ⟨b,0,none⟩)) (.agg cs)=.ok .skip (w.setRow b cs):=
 run_exec_store _ w none 0 "" #[] none _ _ _ 37 (by kernel_rfl) hx (by show aggOk _ (.agg cs)=true;rw[aggOk_agg,←Array.all_toList,oneL_all _ h1,hs];simp)
theorem info_key:(Tryz.prog.info? 30).map (·.size)=some 37:=by kernel_rfl
theorem exec_load_rkey (ev:Operand→Value)(w:World)(dst:Option Tmp)(t:TypeId)(pos:String)(after:Array Edge)(g:Option (Nat×Bool))(x:Operand):(execOp ev ⟨dst,.load 38 x,t,pos,after,g⟩).run Tryz.prog w=ldRun Tryz.prog 38 w (ev x):=exec_load _ ev w dst t pos after g x _
theorem run_load_rkey (w:World)(b off:Nat)(hs:(partOf w b off 37).size=37):ldRun Tryz.prog 38 w (.pointer (some ⟨b,off,none⟩))=.ok (.value (.agg (partOf w b off 37))) w:=
 run_exec_load _ w none 0 "" #[] none _ _ 37 _ Tryz.underlying38 rfl (by kernel_rfl) (by decide) hs
theorem exec_store_rkey (ev:Operand→Value)(w:World)(dst:Option Tmp)(t:TypeId)(pos:String)(after:Array Edge)(g:Option (Nat×Bool))(x y:Operand):(execOp ev ⟨dst,.store 38 x y,t,pos,after,g⟩).run Tryz.prog w=stRun Tryz.prog 38 w (ev x) (ev y):=exec_store _ ev w dst t pos after g x y _
theorem run_store_rkey (w:World)(b:Nat)(cs:Array Value)(hx:rowFree w b 37=true)(hs:cs.size=37)(h1:oneL cs.toList=true):stRun Tryz.prog 38 w (.pointer (some ⟨b,0,none⟩)) (.agg cs)=.ok .skip (w.setRow b cs):=
 run_exec_store _ w none 0 "" #[] none _ _ _ 37 (by kernel_rfl) hx (by show aggOk _ (.agg cs)=true;rw[aggOk_agg,←Array.all_toList,oneL_all _ h1,hs];simp)
theorem info_rkey:(Tryz.prog.info? 38).map (·.size)=some 37:=by kernel_rfl
theorem exec_load_pkt (ev:Operand→Value)(w:World)(dst:Option Tmp)(t:TypeId)(pos:String)(after:Array Edge)(g:Option (Nat×Bool))(x:Operand):(execOp ev ⟨dst,.load 32 x,t,pos,after,g⟩).run Tryz.prog w=ldRun Tryz.prog 32 w (ev x):=exec_load _ ev w dst t pos after g x _
theorem run_load_pkt (w:World)(b off:Nat)(hs:(partOf w b off 40).size=40):ldRun Tryz.prog 32 w (.pointer (some ⟨b,off,none⟩))=.ok (.value (.agg (partOf w b off 40))) w:=
 run_exec_load _ w none 0 "" #[] none _ _ 40 _ Tryz.underlying32 rfl (by kernel_rfl) (by decide) hs
theorem exec_store_pkt (ev:Operand→Value)(w:World)(dst:Option Tmp)(t:TypeId)(pos:String)(after:Array Edge)(g:Option (Nat×Bool))(x y:Operand):(execOp ev ⟨dst,.store 32 x y,t,pos,after,g⟩).run Tryz.prog w=stRun Tryz.prog 32 w (ev x) (ev y):=exec_store _ ev w dst t pos after g x y _
theorem run_store_pkt (w:World)(b:Nat)(cs:Array Value)(hx:rowFree w b 40=true)(hs:cs.size=40)(h1:oneL cs.toList=true):stRun Tryz.prog 32 w (.pointer (some ⟨b,0,none⟩)) (.agg cs)=.ok .skip (w.setRow b cs):=
 run_exec_store _ w none 0 "" #[] none _ _ _ 40 (by kernel_rfl) hx (by show aggOk _ (.agg cs)=true;rw[aggOk_agg,←Array.all_toList,oneL_all _ h1,hs];simp)
theorem info_pkt:(Tryz.prog.info? 32).map (·.size)=some 40:=by kernel_rfl
theorem exec_load_spc (ev:Operand→Value)(w:World)(dst:Option Tmp)(t:TypeId)(pos:String)(after:Array Edge)(g:Option (Nat×Bool))(x:Operand):(execOp ev ⟨dst,.load 47 x,t,pos,after,g⟩).run Tryz.prog w=ldRun Tryz.prog 47 w (ev x):=exec_load _ ev w dst t pos after g x _
theorem run_load_spc (w:World)(b off:Nat)(hs:(partOf w b off 39).size=39):ldRun Tryz.prog 47 w (.pointer (some ⟨b,off,none⟩))=.ok (.value (.agg (partOf w b off 39))) w:=
 run_exec_load _ w none 0 "" #[] none _ _ 39 _ Tryz.underlying47 rfl (by kernel_rfl) (by decide) hs
theorem exec_store_out (ev:Operand→Value)(w:World)(dst:Option Tmp)(t:TypeId)(pos:String)(after:Array Edge)(g:Option (Nat×Bool))(x y:Operand):(execOp ev ⟨dst,.store 85 x y,t,pos,after,g⟩).run Tryz.prog w=stRun Tryz.prog 85 w (ev x) (ev y):=exec_store _ ev w dst t pos after g x y _
theorem run_store_out (w:World)(b:Nat)(cs:Array Value)(hx:rowFree w b 42=true)(hs:cs.size=42)(h1:oneL cs.toList=true):stRun Tryz.prog 85 w (.pointer (some ⟨b,0,none⟩)) (.agg cs)=.ok .skip (w.setRow b cs):=
 run_exec_store _ w none 0 "" #[] none _ _ _ 42 (by kernel_rfl) hx (by show aggOk _ (.agg cs)=true;rw[aggOk_agg,←Array.all_toList,oneL_all _ h1,hs];simp)
theorem info_out:(Tryz.prog.info? 85).map (·.size)=some 42:=by kernel_rfl
attribute [go_sem ↓] exec_load_ar4 exec_load_iph exec_store_iph exec_load_seg exec_store_seg exec_load_key exec_store_key exec_load_rkey exec_store_rkey exec_load_pkt exec_store_pkt exec_load_spc exec_store_out
attribute [go_sem] run_load_ar4 run_load_iph run_store_iph run_load_seg run_store_seg run_load_key run_store_key run_load_rkey run_store_rkey run_load_pkt run_store_pkt run_load_spc run_store_out
open Go.RowKit
theorem partOf_all {w:World}{b n:Nat}{cs:Array Value}{t:TypeId}{fr:Nat×Nat}(h:w.heap[b]? =some (.cells cs t fr))(hs:cs.size=n):partOf w b 0 n=cs:=by
 rw[partOf_row _ _ _ _ _ _ _ h,Nat.zero_add,←hs];simp
theorem setRow_row {w:World}{b:Nat}{old cs:Array Value}{t:TypeId}{fr:Nat×Nat}(h:w.heap[b]? =some (.cells old t fr)):(w.setRow b cs).heap[b]? =some (.cells cs t fr):=setRow_heap _ _ _ _ _ _ h
theorem setRow_below {B:Nat}{w:World}{b:Nat}(cs:Array Value)(h:B≤b):Below B w (w.setRow b cs):=⟨rfl,rfl,rfl,by simp,fun k hk=>setRow_other _ _ _ _ (by omega)⟩
theorem exec_load_pro (ev:Operand→Value)(w:World)(dst:Option Tmp)(t:TypeId)(pos:String)(after:Array Edge)(g:Option (Nat×Bool))(x:Operand):(execOp ev ⟨dst,.load 222 x,t,pos,after,g⟩).run Tryz.prog w=ldRun Tryz.prog 222 w (ev x):=exec_load _ ev w dst t pos after g x _
theorem run_load_pro (w:World)(b off:Nat)(hs:(partOf w b off 5).size=5):ldRun Tryz.prog 222 w (.pointer (some ⟨b,off,none⟩))=.ok (.value (.agg (partOf w b off 5))) w:=
 run_exec_load _ w none 0 "" #[] none _ _ 5 _ Tryz.underlying222 rfl (by kernel_rfl) (by decide) hs
theorem exec_store_pro (ev:Operand→Value)(w:World)(dst:Option Tmp)(t:TypeId)(pos:String)(after:Array Edge)(g:Option (Nat×Bool))(x y:Operand):(execOp ev ⟨dst,.store 222 x y,t,pos,after,g⟩).run Tryz.prog w=stRun Tryz.prog 222 w (ev x) (ev y):=exec_store _ ev w dst t pos after g x y _
theorem run_store_pro (w:World)(b:Nat)(cs:Array Value)(hx:rowFree w b 5=true)(hs:cs.size=5)(h1:oneL cs.toList=true):stRun Tryz.prog 222 w (.pointer (some ⟨b,0,none⟩)) (.agg cs)=.ok .skip (w.setRow b cs):=
 run_exec_store _ w none 0 "" #[] none _ _ _ 5 (by kernel_rfl) hx (by show aggOk _ (.agg cs)=true;rw[aggOk_agg,←Array.all_toList,oneL_all _ h1,hs];simp)
attribute [go_sem ↓] exec_load_pro exec_store_pro
attribute [go_sem] run_load_pro run_store_pro
theorem do_store_pro (ev:Operand→Value)(w:World){dst:Option Tmp}{t:TypeId}{pos:String}{after:Array Edge}{g:Option (Nat×Bool)}{x y:Operand}(b:Nat)(cs:Array Value)(hx:ev x=.pointer (some ⟨b,0,none⟩))(hy:ev y=.agg cs)(hr:rowFree w b 5=true)(hs:cs.size=5)(h1:oneL cs.toList=true):(execOp ev ⟨dst,.store 222 x y,t,pos,after,g⟩).run Tryz.prog w=.ok .skip (w.setRow b cs):=by
 rw[exec_store_pro,hx,hy];exact run_store_pro w b cs hr hs h1
theorem do_store_seg (ev:Operand→Value)(w:World){dst:Option Tmp}{t:TypeId}{pos:String}{after:Array Edge}{g:Option (Nat×Bool)}{x y:Operand}(b:Nat)(cs:Array Value)(hx:ev x=.pointer (some ⟨b,0,none⟩))(hy:ev y=.agg cs)(hr:rowFree w b 12=true)(hs:cs.size=12)(h1:oneL cs.toList=true):(execOp ev ⟨dst,.store 149 x y,t,pos,after,g⟩).run Tryz.prog w=.ok .skip (w.setRow b cs):=by
 rw[exec_store_seg,hx,hy];exact run_store_seg w b cs hr hs h1
theorem do_load_seg (ev:Operand→Value)(w:World){dst:Option Tmp}{t:TypeId}{pos:String}{after:Array Edge}{g:Option (Nat×Bool)}{x:Operand}(b:Nat)(cs:Array Value)(hx:ev x=.pointer (some ⟨b,0,none⟩))(hp:partOf w b 0 12=cs)(hs:cs.size=12):(execOp ev ⟨dst,.load 149 x,t,pos,after,g⟩).run Tryz.prog w=.ok (.value (.agg cs)) w:=by
 rw[exec_load_seg,hx,run_load_seg w b 0 (by rw[hp,hs]),hp]
theorem do_load_key (ev:Operand→Value)(w:World){dst:Option Tmp}{t:TypeId}{pos:String}{after:Array Edge}{g:Option (Nat×Bool)}{x:Operand}(b:Nat)(cs:Array Value)(hx:ev x=.pointer (some ⟨b,0,none⟩))(hp:partOf w b 0 37=cs)(hs:cs.size=37):(execOp ev ⟨dst,.load 30 x,t,pos,after,g⟩).run Tryz.prog w=.ok (.value (.agg cs)) w:=by
 rw[exec_load_key,hx,run_load_key w b 0 (by rw[hp,hs]),hp]
theorem do_load_rkey (ev:Operand→Value)(w:World){dst:Option Tmp}{t:TypeId}{pos:String}{after:Array Edge}{g:Option (Nat×Bool)}{x:Operand}(b:Nat)(cs:Array Value)(hx:ev x=.pointer (some ⟨b,0,none⟩))(hp:partOf w b 0 37=cs)(hs:cs.size=37):(execOp ev ⟨dst,.load 38 x,t,pos,after,g⟩).run Tryz.prog w=.ok (.value (.agg cs)) w:=by
 rw[exec_load_rkey,hx,run_load_rkey w b 0 (by rw[hp,hs]),hp]
open Go.RowKit Bits
theorem docskey_any (s:Bool)(S:Nat→Int)(t:Bool)(T:Nat→Int)(p a b:Int)(w:World):
 Calls Tryz.prog 21 #[.agg (kyC s S t T p a b)] w (RetAt w (.agg (kyC s S t T p a b))):=by
 have HD1:=Lib.hid (fun w=>docsaddr_any s S w)
 have HD2:=Lib.hid (fun w=>docsaddr_any t T w)
 unfold kyC adV at*
 go_enter Tryz.func21,Tryz.ntmps21
 go_wp2_with fail
 refine wp_region_tail 13 (by kernel_rfl) (by kernel_rfl) ?_
 simp only[List.take_succ_cons,List.take_zero,List.drop_succ_cons,List.drop_zero]
 repeat go_big_quiet_step ((go_at_call 56;first|exact later_call (HD1.out _)|exact later_call (HD2.out _)))
 refine wpQuiet_nil ?_
 intro x
 have HP:x.world.heap[w.heap.size+1]? =some (.cells (kyC false (fun _=>0) false (fun _=>0) 0 0 0) 38 (0,0)):=(x.below.block _ (by simp)).trans (heap_alloc2_new w (.cells (kyC s S t T p a b) 30) (.cells (kyC false (fun _=>0) false (fun _=>0) 0 0 0) 38))
 have hrr:rowFree x.world (w.heap.size+1) 37=true:=by rw[rowFree_row _ _ _ _ _ HP];rfl
 have HPh:=Lib.hid HP
 have HB1:=Lib.hid (show Below w.heap.size w x.world from Below.lat (Below.all (Below.all (Below.refl _ _) _) _))
 clear HP
 go_wp2_with fail
 exact bodyPost_ret (v:=.agg (kyC s S t T p a b)) (results_part1 rfl _ _ (w.heap.size+1) 37 _ Tryz.underlying38 rfl info_rkey rfl _ (partOf_set2 HPh.out) rfl) rfl (.mk rfl (below_setRow HB1.out (by omega) _))
open Go.RowKit
theorem eqL_self (l:List Int):eqL l l=true:=(eqL_iff l l).2 rfl
theorem run_equalIn_key (w:World)(d:Nat)(s:Bool)(S:Nat→Int)(t:Bool)(T:Nat→Int)(p a b c e:Int):
 (Op.equalIn (d+6) 30 (.agg #[.bool s,.int .u8 (S 0),.int .u8 (S 1),.int .u8 (S 2),.int .u8 (S 3),.int .u8 (S 4),.int .u8 (S 5),.int .u8 (S 6),.int .u8 (S 7),.int .u8 (S 8),.int .u8 (S 9),.int .u8 (S 10),.int .u8 (S 11),.int .u8 (S 12),.int .u8 (S 13),.int .u8 (S 14),.int .u8 (S 15),.bool t,.int .u8 (T 0),.int .u8 (T 1),.int .u8 (T 2),.int .u8 (T 3),.int .u8 (T 4),.int .u8 (T 5),.int .u8 (T 6),.int .u8 (T 7),.int .u8 (T 8),.int .u8 (T 9),.int .u8 (T 10),.int .u8 (T 11),.int .u8 (T 12),.int .u8 (T 13),.int .u8 (T 14),.int .u8 (T 15),.int .u8 p,.int .u16 a,.int .u16 b]) (.agg #[.bool s,.int .u8 (S 0),.int .u8 (S 1),.int .u8 (S 2),.int .u8 (S 3),.int .u8 (S 4),.int .u8 (S 5),.int .u8 (S 6),.int .u8 (S 7),.int .u8 (S 8),.int .u8 (S 9),.int .u8 (S 10),.int .u8 (S 11),.int .u8 (S 12),.int .u8 (S 13),.int .u8 (S 14),.int .u8 (S 15),.bool t,.int .u8 (T 0),.int .u8 (T 1),.int .u8 (T 2),.int .u8 (T 3),.int .u8 (T 4),.int .u8 (T 5),.int .u8 (T 6),.int .u8 (T 7),.int .u8 (T 8),.int .u8 (T 9),.int .u8 (T 10),.int .u8 (T 11),.int .u8 (T 12),.int .u8 (T 13),.int .u8 (T 14),.int .u8 (T 15),.int .u8 p,.int .u16 c,.int .u16 e])).run Tryz.prog w=.ok (decide (a=c)&&decide (b=e)) w:=by
 simp[go_sem]
 by_cases h1:a=c
 ·by_cases h2:b=e<;>simp[h1,h2,eqL_self]
 ·simp[h1]
attribute [go_sem 5000] run_equalIn_key
end
end Go.Proofs.YtkgjbipfhhjlpaaGreatDoor
