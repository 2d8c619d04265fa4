import Derived.Test.YtkgjbipfhhjlpaaGreatDoorMp17
set_option linter.unusedVariables false
set_option linter.unusedSimpArgs false
set_option maxRecDepth 100000
set_option maxHeartbeats 32000000
namespace Go.Proofs.YtkgjbipfhhjlpaaGreatDoor
section
open Go.RowKit Bits
theorem rhead_any (p:Int)(w:World):Calls Tryz.prog 96 #[.int .u8 p] w (RetAt w (.int .i64 (tHead p:Int))):=by
 have HV:Hid (tHead p=if p=6 then 20 else if p=17 then 8 else if p=1∨p=58 then 4 else 0):=Lib.hid rfl
 generalize tHead p=H at*
 by_cases h6:p=6
 ·subst h6
  have HE:Hid (H=20):=Lib.hid (by rw[HV.out,if_pos rfl])
  go_enter Tryz.func96,Tryz.ntmps96
  go_wp2_with fail
  go_ret
  exact .mk (by rw[HE.out];rfl) (Below.refl _ _)
 have b6:(p==6)=false:=by simpa using h6
 by_cases h17:p=17
 ·subst h17
  have HE:Hid (H=8):=Lib.hid (by rw[HV.out,if_neg (by decide),if_pos rfl])
  go_enter Tryz.func96,Tryz.ntmps96
  go_wp2_with fail
  go_ret
  exact .mk (by rw[HE.out];rfl) (Below.refl _ _)
 have b17:(p==17)=false:=by simpa using h17
 by_cases h1:p=1
 ·subst h1
  have HE:Hid (H=4):=Lib.hid (by rw[HV.out,if_neg (by decide),if_neg (by decide),if_pos (.inl rfl)])
  go_enter Tryz.func96,Tryz.ntmps96
  go_wp2_with fail
  go_ret
  exact .mk (by rw[HE.out];rfl) (Below.refl _ _)
 have b1:(p==1)=false:=by simpa using h1
 by_cases h58:p=58
 ·subst h58
  have HE:Hid (H=4):=Lib.hid (by rw[HV.out,if_neg (by decide),if_neg (by decide),if_pos (.inr rfl)])
  go_enter Tryz.func96,Tryz.ntmps96
  go_wp2_with fail
  go_ret
  exact .mk (by rw[HE.out];rfl) (Below.refl _ _)
 have b58:(p==58)=false:=by simpa using h58
 have HE:Hid (H=0):=Lib.hid (by rw[HV.out,if_neg h6,if_neg h17,if_neg (by omega)])
 clear h6 h17 h1 h58
 go_enter Tryz.func96,Tryz.ntmps96
 go_wp2_with fail
 go_ret
 exact .mk (by rw[HE.out];rfl) (Below.refl _ _)
theorem one_bytes {v:Int}(h:0≤v∧v<256):IsBytes [v]:=by intro x hx;obtain rfl:=List.mem_singleton.1 hx;exact h
theorem rone_any (v:Int)(h:0≤v∧v<256)(w:World):Calls Tryz.prog 153 #[.int .u8 v] w (RetAt w (.string (strOfNums [v]))):=by
 have hcv:=run_string_reads (P:=Tryz.prog) 22 5 Tryz.underlying22 Tryz.underlying5 (box_reads (heap_alloc_new w (.cells #[.int .u8 v] 5)) 0 1 [v] rfl (one_bytes h) (by decide) (fun j hj=>by
  rcases j with _|j
  ·rfl
  ·omega)) 9 Tryz.underlying9
 generalize strOfNums [v]=S at*
 go_enter Tryz.func153,Tryz.ntmps153
 go_wp2_with fail
 go_ret
 exact .mk rfl (Below.all (Below.refl _ _) _)
theorem rtwo_any (v:Int)(h:0≤v∧v<65536)(w:World):Calls Tryz.prog 154 #[.int .u16 v] w (RetAt w (.string (strOfNums (be2 v)))):=by
 have HP:=Lib.hid (refPut2 v▸refput_any 2 v w (by decide) h.1 (by omega))
 have h0:=h.1
 have h1:v≤65535:=by omega
 have hlb:(be2 v).length=2:=rfl
 have HCV:Hid (∀(w':World) oa cap,Reads w' oa 2 cap (be2 v)→(convert 22 9 (.slice oa 2 cap)).run Tryz.prog w'=.ok (.string (strOfNums (be2 v))) w'):=Lib.hid (fun w' oa cap hr=>run_string_reads (P:=Tryz.prog) 22 5 Tryz.underlying22 Tryz.underlying5 hr 9 Tryz.underlying9)
 generalize strOfNums (be2 v)=S at*
 go_enter Tryz.func154,Tryz.ntmps154
 go_wp2_with fail
 refine Calls.mono HP.out ?_
 rintro e w1 ⟨oa,cap,rfl,ho,hb⟩
 have hcv:=HCV.out w1 oa cap (ho.reads (be2_bytes v))
 have HB:=Lib.hid hb
 rw[hlb]
 clear ho hb
 go_wp2_with fail
 go_ret
 exact .mk rfl HB.out
theorem rfour_any (v:Int)(h:0≤v∧v<4294967296)(w:World):Calls Tryz.prog 155 #[.int .u32 v] w (RetAt w (.string (strOfNums (be4 v)))):=by
 have HP:=Lib.hid (refPut4 v▸refput_any 4 v w (by decide) h.1 (by omega))
 have h0:=h.1
 have h1:v≤4294967295:=by omega
 have hlb:(be4 v).length=4:=rfl
 have HCV:Hid (∀(w':World) oa cap,Reads w' oa 4 cap (be4 v)→(convert 22 9 (.slice oa 4 cap)).run Tryz.prog w'=.ok (.string (strOfNums (be4 v))) w'):=Lib.hid (fun w' oa cap hr=>run_string_reads (P:=Tryz.prog) 22 5 Tryz.underlying22 Tryz.underlying5 hr 9 Tryz.underlying9)
 generalize strOfNums (be4 v)=S at*
 go_enter Tryz.func155,Tryz.ntmps155
 go_wp2_with fail
 refine Calls.mono HP.out ?_
 rintro e w1 ⟨oa,cap,rfl,ho,hb⟩
 have hcv:=HCV.out w1 oa cap (ho.reads (be4_bytes v))
 have HB:=Lib.hid hb
 rw[hlb]
 clear ho hb
 go_wp2_with fail
 go_ret
 exact .mk rfl HB.out
theorem ExtsAt.ext {w:World}{lo:Nat}{oe:Option Addr}{ce:Nat}{xs:ExtL}{es:List ExtRec}(h:ExtsAt w lo oe ce xs es)(j:Nat)(x:Int×List Int)(hx:xs[j]? =some x):
 ∃g off oD cD,oe=some ⟨g,off,none⟩∧g<w.heap.size∧w.cell? ⟨g,off+j*2,none⟩=some (.int .u8 x.1)∧w.cell? ⟨g,off+j*2+1,none⟩=some (.slice oD x.2.length cD)∧Reads w oD x.2.length cD x.2:=by
 have hj:=(List.getElem?_eq_some_iff.1 hx).1
 have hl:=h.len
 obtain⟨e,hxe⟩:∃e,es[j]? =some e:=⟨es[j],List.getElem?_eq_getElem (by omega)⟩
 have hat:=h.each j e x hxe hx
 have hcs:=extCells_get es j e hxe
 obtain⟨g,off,rfl,hg0,hg1,hc,-⟩:=h.own.here (by omega)
 have hm:e.m=x.2.length:=hat.rd.len.symm
 refine⟨g,off,e.a,e.c,rfl,hg1,?_,?_,?_⟩
 ·have:=hc _ _ hcs.1
  rw[show off+j*2=off+2*j by omega,this,hat.k]
 ·have:=hc _ _ hcs.2
  rw[show off+j*2+1=off+(2*j+1) by omega,this,hm]
 ·have:=hat.rd
  rwa [hm] at this
theorem fragcl_any (k:Int)(oa:Option Addr)(n c:Nat)(w:World):Calls Tryz.prog 191 #[.agg #[.int .u8 k,.slice oa n c]] w (RetAt w (.bool (k==44))):=by
 go_enter Tryz.func191,Tryz.ntmps191
 go_wp2_with fail
 go_ret
 exact .mk rfl (Below.all (Below.refl _ _) _)
theorem rightcl_any (k:Int)(oa:Option Addr)(cap:Nat)(d:List Int)(w:World)(hr:Reads w oa d.length cap d)(hn:d.length≤100000):Calls Tryz.prog 90 #[.agg #[.int .u8 k,.slice oa d.length cap]] w (RetAt w (.bool (!xRight k d))):=by
 have HR:=Lib.hid hr
 have HS:Hid (∀w1,Reads w1 oa d.length cap d→Calls Tryz.prog 91 #[.agg #[.int .u8 k,.slice oa d.length cap]] w1 (RetAt w1 (.bool (xRight k d)))):=Lib.hid (fun w1 h1=>xright_any k oa cap d w1 h1 hn)
 clear hr
 generalize xRight k d=V at*
 generalize d.length=n at*
 go_enter Tryz.func90,Tryz.ntmps90
 go_wp2_with fail
 refine Calls.later0 (HS.out _ (HR.out.alloc _)) ?_
 intro x
 go_wp2_with fail
 go_ret
 exact .mk rfl x.below
def firstIdx (t:Int×List Int→Bool):ExtL→Nat→Int
 |[],_=>-1
 |x::xs,i=>if t x then (i:Int) else firstIdx t xs (i+1)
theorem firstIdx_step (t:Int×List Int→Bool)(xs:ExtL)(j:Nat)(x:Int×List Int)(hx:xs[j]? =some x):firstIdx t (xs.drop j) j=if t x then (j:Int) else firstIdx t (xs.drop (j+1)) (j+1):=by
 have hj:=(List.getElem?_eq_some_iff.1 hx).1
 rw[List.drop_eq_getElem_cons hj,firstIdx]
 have:xs[j]=x:=by have:=List.getElem?_eq_getElem hj;rw[hx] at this;exact(Option.some.inj this).symm
 rw[this]
theorem firstIdx_none (t:Int×List Int→Bool):∀(xs:ExtL) (i:Nat),(∀x∈xs,t x=false)→firstIdx t xs i=-1
 |[],_,_=>rfl
 |x::xs,i,h=>by rw[firstIdx,h x (by simp)];exact firstIdx_none t xs (i+1) (fun y hy=>h y (by simp[hy]))
theorem idxfrag_any (lo:Nat)(oe:Option Addr)(ce:Nat)(xs:ExtL)(es:List ExtRec)(w:World)(h:ExtsAt w lo oe ce xs es)(hn:xs.length≤16):
 Calls Tryz.prog 150 #[.slice oe xs.length ce,.func (.func 191) #[] #[]] w (RetAt w (.int .i64 (firstIdx (fun x=>x.1==44) xs 0))):=by
 have HX:=Lib.hid h
 have HL:Hid (∀j x,xs[j]? =some x→j<xs.length):=Lib.hid (fun j x hx=>(List.getElem?_eq_some_iff.1 hx).1)
 obtain⟨n,hnn⟩:∃n,xs.length=n:=⟨_,rfl⟩
 have HN:=Lib.hid hnn
 rw[hnn] at hn⊢
 clear h hnn
 go_enter Tryz.func150,Tryz.ntmps150
 go_wp2_with fail
 go_loopg [8] n (fun g u8 wr=>∃(z:World) (j:Nat),z=wr∧j+g=n∧u8=.int .i64 (j:Int)∧Hid (firstIdx (fun x=>x.1==44) xs 0=firstIdx (fun x=>x.1==44) (xs.drop j) j)∧Hid (ExtsAt z lo oe ce xs es)∧Hid (Below w.heap.size w z))
 case atStart=>exact⟨_,0,rfl,by omega,rfl,Lib.hid rfl,HX,Lib.hid (Below.refl _ _)⟩
 case round=>
  obtain⟨z,j,hz,hjg,rfl,HI,HE,HB⟩:=hrel
  subst hz
  by_cases hlt:j<n
  ·obtain⟨x,hx⟩:∃x,xs[j]? =some x:=⟨_,List.getElem?_eq_getElem (by rw[HN.out];exact hlt)⟩
   have HXX:=Lib.hid hx
   have HST:=Lib.hid (firstIdx_step (fun x=>x.1==44) xs j x hx)
   obtain⟨g,off,oD,cD,rfl,hg,hc0,hc1,hrd⟩:=HE.out.ext j x hx
   have HRD:=Lib.hid hrd
   clear hx hrd
   have hd:decide ((j:Int)<(n:Int))=true:=by simp;omega
   obtain⟨k,d⟩:=x
   simp only at hc0 hc1 HRD HST
   skip
   go_wp2_with fail
   refine Calls.mono (fragcl_any k oD d.length cD _) ?_
   rintro e z2 ⟨rfl,hb⟩
   have HB2:=Lib.hid (Below.via HB.out hb)
   have HE2:=Lib.hid (HE.out.below hb)
   clear hb HE HB hc0 hc1
   cases hT:(fun x=>x.1==44) (k,d)
   ·simp only at hT
    have HI2:Hid (firstIdx (fun x=>x.1==44) xs 0=firstIdx (fun x=>x.1==44) (xs.drop (j+1)) (j+1)):=Lib.hid (by rw[HI.out,HST.out,hT];rfl)
    rw[hT]
    go_wp2_with fail
    go_roundg (n-(j+1))
    case measure=>omega
    case rel=>exact⟨_,j+1,rfl,by omega,by go_num,HI2,HE2,HB2⟩
   ·simp only at hT
    have HI2:Hid (firstIdx (fun x=>x.1==44) xs 0=(j:Int)):=Lib.hid (by rw[HI.out,HST.out,hT];rfl)
    rw[hT]
    go_wp2_with fail
    go_ret
    exact .mk (val_int HI2.out.symm) HB2.out
  ·have hj:j=n:=by omega
   have HI2:Hid (firstIdx (fun x=>x.1==44) xs 0=-1):=Lib.hid (by rw[HI.out,List.drop_eq_nil_of_le (by rw[HN.out];omega)];rfl)
   have hd:decide ((j:Int)<(n:Int))=false:=by simp;omega
   go_wp2_with fail
   go_ret
   exact .mk (val_int HI2.out.symm) HB.out
theorem idxright_any (lo:Nat)(oe:Option Addr)(ce:Nat)(xs:ExtL)(es:List ExtRec)(w:World)(h:ExtsAt w lo oe ce xs es)(hn:xs.length≤16)(hd0:∀x∈xs,x.2.length≤100000):
 Calls Tryz.prog 150 #[.slice oe xs.length ce,.func (.func 90) #[] #[]] w (RetAt w (.int .i64 (firstIdx (fun x=>!xRight x.1 x.2) xs 0))):=by
 have HX:=Lib.hid h
 have HL:Hid (∀j x,xs[j]? =some x→j<xs.length):=Lib.hid (fun j x hx=>(List.getElem?_eq_some_iff.1 hx).1)
 obtain⟨n,hnn⟩:∃n,xs.length=n:=⟨_,rfl⟩
 have HN:=Lib.hid hnn
 rw[hnn] at hn⊢
 clear h hnn
 go_enter Tryz.func150,Tryz.ntmps150
 go_wp2_with fail
 go_loopg [8] n (fun g u8 wr=>∃(z:World) (j:Nat),z=wr∧j+g=n∧u8=.int .i64 (j:Int)∧Hid (firstIdx (fun x=>!xRight x.1 x.2) xs 0=firstIdx (fun x=>!xRight x.1 x.2) (xs.drop j) j)∧Hid (ExtsAt z lo oe ce xs es)∧Hid (Below w.heap.size w z))
 case atStart=>exact⟨_,0,rfl,by omega,rfl,Lib.hid rfl,HX,Lib.hid (Below.refl _ _)⟩
 case round=>
  obtain⟨z,j,hz,hjg,rfl,HI,HE,HB⟩:=hrel
  subst hz
  by_cases hlt:j<n
  ·obtain⟨x,hx⟩:∃x,xs[j]? =some x:=⟨_,List.getElem?_eq_getElem (by rw[HN.out];exact hlt)⟩
   have HXX:=Lib.hid hx
   have HST:=Lib.hid (firstIdx_step (fun x=>!xRight x.1 x.2) xs j x hx)
   obtain⟨g,off,oD,cD,rfl,hg,hc0,hc1,hrd⟩:=HE.out.ext j x hx
   have HRD:=Lib.hid hrd
   clear hx hrd
   have hd:decide ((j:Int)<(n:Int))=true:=by simp;omega
   obtain⟨k,d⟩:=x
   simp only at hc0 hc1 HRD HST
   skip
   go_wp2_with fail
   refine Calls.mono (rightcl_any k oD cD d _ HRD.out (hd0 _ (List.mem_of_getElem? HXX.out))) ?_
   rintro e z2 ⟨rfl,hb⟩
   have HB2:=Lib.hid (Below.via HB.out hb)
   have HE2:=Lib.hid (HE.out.below hb)
   clear hb HE HB hc0 hc1
   cases hT:(fun x=>!xRight x.1 x.2) (k,d)
   ·simp only at hT
    have HI2:Hid (firstIdx (fun x=>!xRight x.1 x.2) xs 0=firstIdx (fun x=>!xRight x.1 x.2) (xs.drop (j+1)) (j+1)):=Lib.hid (by rw[HI.out,HST.out,hT];rfl)
    rw[hT]
    go_wp2_with fail
    go_roundg (n-(j+1))
    case measure=>omega
    case rel=>exact⟨_,j+1,rfl,by omega,by go_num,HI2,HE2,HB2⟩
   ·simp only at hT
    have HI2:Hid (firstIdx (fun x=>!xRight x.1 x.2) xs 0=(j:Int)):=Lib.hid (by rw[HI.out,HST.out,hT];rfl)
    rw[hT]
    go_wp2_with fail
    go_ret
    exact .mk (val_int HI2.out.symm) HB2.out
  ·have hj:j=n:=by omega
   have HI2:Hid (firstIdx (fun x=>!xRight x.1 x.2) xs 0=-1):=Lib.hid (by rw[HI.out,List.drop_eq_nil_of_le (by rw[HN.out];omega)];rfl)
   have hd:decide ((j:Int)<(n:Int))=false:=by simp;omega
   go_wp2_with fail
   go_ret
   exact .mk (val_int HI2.out.symm) HB.out
theorem contright_any (lo:Nat)(oe:Option Addr)(ce:Nat)(xs:ExtL)(es:List ExtRec)(w:World)(h:ExtsAt w lo oe ce xs es)(hn:xs.length≤16)(hd0:∀x∈xs,x.2.length≤100000)(hr:∀x∈xs,xRight x.1 x.2=true):
 Calls Tryz.prog 89 #[.slice oe xs.length ce,.func (.func 90) #[] #[]] w (RetAt w (.bool false)):=by
 have HC:=Lib.hid (idxright_any lo oe ce xs es w h hn hd0)
 rw[firstIdx_none _ _ _ (fun x hx=>by simp[hr x hx])] at HC
 clear h hr hd0
 generalize xs.length=n at*
 go_enter Tryz.func89,Tryz.ntmps89
 go_wp2_with fail
 refine Calls.mono HC.out ?_
 rintro e z ⟨rfl,hb⟩
 go_wp2_with fail
 go_ret
 exact .mk rfl hb
theorem chright_any (lo:Nat)(oe:Option Addr)(ce:Nat)(xs:ExtL)(es:List ExtRec)(p:Int)(w:World)(h:ExtsAt w lo oe ce xs es)(hk:ChOk xs)(hd0:∀x∈xs,x.2.length≤100000):
 Calls Tryz.prog 42 #[.agg #[.slice oe xs.length ce,.int .u8 p]] w (RetAt w (.bool (!behindB p||lastLater xs))):=by
 have HX:=Lib.hid h
 have HCK:=Lib.hid hk
 have HD:=Lib.hid hd0
 have hn16:=hk.le
 have HCO:Hid (∀w',ExtsAt w' lo oe ce xs es→Calls Tryz.prog 89 #[.slice oe xs.length ce,.func (.func 90) #[] #[]] w' (RetAt w' (.bool false))):=Lib.hid (fun w' h'=>contright_any lo oe ce xs es w' h' HCK.out.le HD.out HCK.out.right)
 have HLL:Hid (∀m,xs.length=m+1→∀x,xs[m]? =some x→lastLater xs=xLater x.1 x.2):=Lib.hid (fun m hm x hx=>by
  unfold lastLater
  rw[List.getLast?_eq_getElem?,hm,Nat.add_sub_cancel,hx])
 have HL0:Hid (xs.length=0→lastLater xs=false):=Lib.hid (fun h=>by rw[List.eq_nil_of_length_eq_zero h];rfl)
 obtain⟨n,hnn⟩:∃n,xs.length=n:=⟨_,rfl⟩
 have HN:=Lib.hid hnn
 rw[hnn] at hn16 HCO HLL HL0⊢
 clear h hk hd0 hnn
 have HB0:Hid (Below w.heap.size w (w.alloc (.cells #[.slice oe n ce,.int .u8 p] 96))):=Lib.hid (Below.all (Below.refl _ _) _)
 have hbx:=heap_alloc_new w (.cells #[.slice oe n ce,.int .u8 p] 96)
 have HX0:=Lib.hid (HX.out.below HB0.out)
 generalize hLL:lastLater xs=LL at*
 generalize hBB:behindB p=BB at*
 go_enter Tryz.func42,Tryz.ntmps42
 have hn16d:decide ((16:Int)<(n:Int))=false:=by simp;omega
 go_wp2_with fail
 generalize hw0:w.alloc (.cells #[.slice oe n ce,.int .u8 p] 96)=w1 at*
 refine Calls.mono (HCO.out _ HX0.out) ?_
 rintro e w2 ⟨rfl,hb⟩
 have HB2:=Lib.hid (Below.via HB0.out hb)
 have HX2:=Lib.hid (HX0.out.below hb)
 have HBX2:=Lib.hid ((hb.block _ (Array.getElem?_eq_some_iff.1 hbx).1).trans hbx)
 clear hb hbx HB0 HX0 HX hw0
 have hc0:w2.cell? ⟨w.heap.size,0,none⟩=some (.slice oe n ce):=cell_of_row _ _ 0 _ _ (0,0) HBX2.out
 go_wp2_with fail
 go_loopg [22] n (fun g u22 wr=>∃(z:World) (j:Nat),z=wr∧j+g=n∧u22=.int .i64 (j:Int)∧Hid (ExtsAt z lo oe ce xs es)∧Hid (Below w.heap.size w z)∧Hid (z.heap[w.heap.size]? =some (.cells #[.slice oe n ce,.int .u8 p] 96 (0,0))))
 case atStart=>exact⟨_,0,rfl,by omega,rfl,HX2,HB2,HBX2⟩
 case round=>
  obtain⟨z,j,hz,hjg,rfl,HE,HB,HBX⟩:=hrel
  subst hz
  by_cases hlt:j<n
  ·obtain⟨x,hx⟩:∃x,xs[j]? =some x:=⟨_,List.getElem?_eq_getElem (by rw[HN.out];exact hlt)⟩
   obtain⟨g,off,oD,cD,rfl,hg,hq0,hq1,hrd⟩:=HE.out.ext j x hx
   have HRD:=Lib.hid hrd
   have hop:=HCK.out.hop j
   have hea:=HCK.out.early j
   have hdl:=HD.out x (List.mem_of_getElem? hx)
   obtain⟨k,d⟩:=x
   have hop':0<j→k≠0:=fun h=>hop h _ hx
   have hea':j+1<n→xLater k d=false:=fun h=>hea (by rw[HN.out];exact h) _ hx
   simp only at hq0 hq1 HRD hdl
   have HL:Hid (∀w',Reads w' oD d.length cD d→Calls Tryz.prog 92 #[.agg #[.int .u8 k,.slice oD d.length cD]] w' (RetAt w' (.bool (xLater k d)))):=Lib.hid (fun w' h=>xlater_any k oD cD d w' h hdl)
   clear hrd hx hop hea hdl
   generalize xLater k d=XL at*
   have hd:decide ((j:Int)<(n:Int))=true:=by simp;omega
   have hj0:(k==0)=false∨((k==0)=true∧decide (0<j)=false):=by
    by_cases h:k=0
    ·refine .inr ⟨by simp[h],?_⟩
     have:¬0<j:=fun h'=>hop' h' h
     simp;omega
    ·exact .inl (by simpa using h)
   rcases hj0 with hk0|⟨hk0,hj0⟩
   all_goals
    go_wp2_with fail
    refine Calls.mono (HL.out _ (HRD.out.alloc _)) ?_
    rintro e z2 ⟨rfl,hb⟩
    have HB2:=Lib.hid (Below.via HB.out (Below.via (Below.all (Below.refl _ _) _) hb))
    have HE2:=Lib.hid (HE.out.below (Below.via (Below.all (Below.refl _ _) _) hb))
    have HBX2:=Lib.hid (((Below.via (Below.all (Below.refl _ _) _) hb).block _ (Array.getElem?_eq_some_iff.1 HBX.out).1).trans HBX.out)
    clear hb HE HB HBX hq0 hq1 HRD HL
    cases XL
    ·go_wp2_with fail
     go_roundg (n-(j+1))
     case measure=>omega
     case rel=>exact⟨_,j+1,rfl,by omega,by go_num,HE2,HB2,HBX2⟩
    ·have hjn:¬j+1<n:=fun h=>by have:=hea' h;cases this
     have hjd:decide ((j:Int)<(n:Int)-1)=false:=by simp;omega
     go_wp2_with fail
     go_roundg (n-(j+1))
     case measure=>omega
     case rel=>exact⟨_,j+1,rfl,by omega,by go_num,HE2,HB2,HBX2⟩
  ·have hd:decide ((j:Int)<(n:Int))=false:=by simp;omega
   have hc0:z.cell? ⟨w.heap.size,0,none⟩=some (.slice oe n ce):=cell_of_row _ _ 0 _ _ (0,0) HBX.out
   have hc1:z.cell? ⟨w.heap.size,1,none⟩=some (.int .u8 p):=cell_of_row _ _ 1 _ _ (0,0) HBX.out
   have HBB:=Lib.hid hBB
   clear hBB
   cases BB
   ·go_wp2_with (go_at_call 93;refine(behind_any _ _).mono ?_;rintro e w' ⟨rfl,rfl⟩;rw[HBB.out])
    go_ret
    exact .mk rfl HB.out
   ·rcases Nat.eq_zero_or_pos n with hn0|hn0
    ·have hm:decide ((0:Int)≤(n:Int)-1)=false:=by simp;omega
     have hLf:LL=false:=HL0.out hn0
     go_wp2_with (go_at_call 93;refine(behind_any _ _).mono ?_;rintro e w' ⟨rfl,rfl⟩;rw[HBB.out])
     go_ret
     exact .mk (by rw[hLf];rfl) HB.out
    ·obtain⟨m,rfl⟩:∃m,n=m+1:=⟨n-1,by omega⟩
     obtain⟨x,hx⟩:∃x,xs[m]? =some x:=⟨_,List.getElem?_eq_getElem (by rw[HN.out];omega)⟩
     obtain⟨g,off,oD,cD,rfl,hg,hq0,hq1,hrd⟩:=HE.out.ext m x hx
     have HRD:=Lib.hid hrd
     have hdl:=HD.out x (List.mem_of_getElem? hx)
     have hlast:=HLL.out m rfl x hx
     obtain⟨k,d⟩:=x
     simp only at hq0 hq1 HRD hdl hlast
     have HL:Hid (∀w',Reads w' oD d.length cD d→Calls Tryz.prog 92 #[.agg #[.int .u8 k,.slice oD d.length cD]] w' (RetAt w' (.bool (xLater k d)))):=Lib.hid (fun w' h=>xlater_any k oD cD d w' h hdl)
     rw[←hlast] at HL
     clear hrd hx hdl hlast
     have hm1:((m+1:Nat):Int)-1=(m:Int):=by omega
     have hm:decide ((0:Int)≤(m:Int))=true:=by simp
     have hmi:(m:Int)<(m:Int)+1:=by omega
     go_wp2_with (go_at_call 93;refine(behind_any _ _).mono ?_;rintro e w' ⟨rfl,rfl⟩;rw[HBB.out])
     refine Calls.mono (HL.out _ HRD.out) ?_
     rintro e z2 ⟨rfl,hb⟩
     go_wp2_with fail
     go_ret
     exact .mk rfl (Below.via HB.out hb)
theorem rports_any (p:Int)(w:World):Calls Tryz.prog 46 #[.int .u8 p] w (RetAt w (.bool (isPorts p))):=by
 by_cases h6:p=6
 ·subst h6
  go_enter Tryz.func46,Tryz.ntmps46
  go_wp2_with fail
  go_ret
  exact .mk rfl (Below.refl _ _)
 ·have hb:(p==6)=false:=by simpa using h6
  have hd:decide (p=6)=false:=by simpa using h6
  have hi:isPorts p=(p==17):=by unfold isPorts;rw[hb];rfl
  rw[hi]
  go_enter Tryz.func46,Tryz.ntmps46
  go_wp2_with fail
  go_ret
  exact .mk rfl (Below.refl _ _)
theorem ricmpB_any (p:Int)(w:World):Calls Tryz.prog 47 #[.int .u8 p] w (RetAt w (.bool (isIcmp p))):=by
 by_cases h6:p=1
 ·subst h6
  go_enter Tryz.func47,Tryz.ntmps47
  go_wp2_with fail
  go_ret
  exact .mk rfl (Below.refl _ _)
 ·have hb:(p==1)=false:=by simpa using h6
  have hd:decide (p=1)=false:=by simpa using h6
  have hi:isIcmp p=(p==58):=by unfold isIcmp;rw[hb];rfl
  rw[hi]
  go_enter Tryz.func47,Tryz.ntmps47
  go_wp2_with fail
  go_ret
  exact .mk rfl (Below.refl _ _)
open Go.RowKit
theorem rkright_any (s:Bool)(S:Nat→Int)(t:Bool)(T:Nat→Int)(p a b:Int)(w:World):
 Calls Tryz.prog 27 #[.agg (kyC s S t T p a b)] w (RetAt w (.bool (kyRight ⟨s,S,t,T,p,a,b⟩))):=by
 have HV:Hid (kyRight ⟨s,S,t,T,p,a,b⟩=(rightB s S&&(rightB t T&&(s==t&&(isPorts p||(a==0&&(isIcmp p||b==0))))))):=Lib.hid rfl
 have HR1:∀w,Calls Tryz.prog 69 #[adV s S] w (RetAt w (.bool (rightB s S))):=fun w=>rright_any s S w
 have HR2:∀w,Calls Tryz.prog 69 #[adV t T] w (RetAt w (.bool (rightB t T))):=fun w=>rright_any t T w
 have HP:=rports_any p
 have HI:=ricmpB_any p
 generalize rightB s S=r1 at*
 generalize rightB t T=r2 at*
 generalize isPorts p=ip at*
 generalize isIcmp p=ii at*
 generalize kyRight ⟨s,S,t,T,p,a,b⟩=res at*
 have hV:=HV.out
 clear HV
 unfold adV kyC at*
 cases r1
 ·have hV:=Lib.hid (show res=false from hV)
  go_enter Tryz.func27,Tryz.ntmps27
  go_wp2_with fail
  refine Calls.later (HR1 _) ?_
  intro x
  go_wp2_with fail
  go_ret
  exact .mk (val_bool hV.out.symm) (Below.lat (Below.all (Below.refl _ _) _))
 cases r2
 ·have hV:=Lib.hid (show res=false from hV)
  go_enter Tryz.func27,Tryz.ntmps27
  go_wp2_with fail
  refine Calls.later (HR1 _) ?_
  intro x
  go_wp2_with fail
  refine Calls.later1 (HR2 _) ?_
  intro y
  go_wp2_with fail
  go_ret
  exact .mk (val_bool hV.out.symm) (Below.lat (Below.all (Below.refl _ _) _))
 by_cases hst:s=t
 rotate_left
 ·have hV:Hid (res=false):=Lib.hid (by rw[hV];simp[hst])
  have hst':(s==t)=false:=by simpa using hst
  go_enter Tryz.func27,Tryz.ntmps27
  go_wp2_with fail
  refine Calls.later (HR1 _) ?_
  intro x
  go_wp2_with fail
  refine Calls.later1 (HR2 _) ?_
  intro y
  go_wp2_with fail
  go_ret
  exact .mk (val_bool hV.out.symm) (Below.lat (Below.all (Below.refl _ _) _))
 subst hst
 have hV:=Lib.hid (show res=(ip||(a==0&&(ii||b==0))) by rw[hV];simp)
 cases ip
 rotate_left
 ·go_enter Tryz.func27,Tryz.ntmps27
  go_wp2_with fail
  refine Calls.later (HR1 _) ?_
  intro x
  go_wp2_with fail
  refine Calls.later1 (HR2 _) ?_
  intro y
  go_wp2_with fail
  refine Calls.later1 (HP _) ?_
  intro z
  go_wp2_with fail
  go_ret
  exact .mk (val_bool hV.out.symm) (Below.lat (Below.all (Below.refl _ _) _))
 by_cases ha:a=0
 rotate_left
 ·have hV:Hid (res=false):=Lib.hid (by rw[hV.out];simp[ha])
  have ha':decide (a=0)=false:=by simpa using ha
  go_enter Tryz.func27,Tryz.ntmps27
  go_wp2_with fail
  refine Calls.later (HR1 _) ?_
  intro x
  go_wp2_with fail
  refine Calls.later1 (HR2 _) ?_
  intro y
  go_wp2_with fail
  refine Calls.later1 (HP _) ?_
  intro z
  go_wp2_with fail
  go_ret
  exact .mk (val_bool hV.out.symm) (Below.lat (Below.all (Below.refl _ _) _))
 subst ha
 have hV:=Lib.hid (show res=(ii||b==0) by rw[hV.out];simp)
 cases ii
 rotate_left
 ·go_enter Tryz.func27,Tryz.ntmps27
  go_wp2_with fail
  refine Calls.later (HR1 _) ?_
  intro x
  go_wp2_with fail
  refine Calls.later1 (HR2 _) ?_
  intro y
  go_wp2_with fail
  refine Calls.later1 (HP _) ?_
  intro z
  go_wp2_with fail
  refine Calls.later1 (HI _) ?_
  intro z2
  go_wp2_with fail
  go_ret
  exact .mk (val_bool hV.out.symm) (Below.lat (Below.all (Below.refl _ _) _))
 ·have hV:=Lib.hid (show res=decide (b=0) by rw[hV.out];simp only[Bool.false_or];rfl)
  go_enter Tryz.func27,Tryz.ntmps27
  go_wp2_with fail
  refine Calls.later (HR1 _) ?_
  intro x
  go_wp2_with fail
  refine Calls.later1 (HR2 _) ?_
  intro y
  go_wp2_with fail
  refine Calls.later1 (HP _) ?_
  intro z
  go_wp2_with fail
  refine Calls.later1 (HI _) ?_
  intro z2
  go_wp2_with fail
  go_ret
  exact .mk (val_bool hV.out.symm) (Below.lat (Below.all (Below.refl _ _) _))
open Go.RowKit
theorem ktext_no (s:Bool)(S:Nat→Int)(t:Bool)(T:Nat→Int)(p a b:Int)(hr:kyRight ⟨s,S,t,T,p,a,b⟩=false)(w:World):
 Calls Tryz.prog 28 #[.agg (kyC s S t T p a b)] w (RetAt w (.string ⟨#[]⟩)):=by
 have HR:=fun w=>kright_any s S t T p a b w
 rw[hr] at HR
 clear hr
 unfold kyC at*
 go_enter Tryz.func28,Tryz.ntmps28
 go_wp2_with fail
 refine Calls.later (HR _) ?_
 intro x
 go_wp2_with fail
 go_ret
 exact .mk rfl (Below.lat (Below.all (Below.refl _ _) _))
open Go.Lib
theorem hexc_sp (d:Nat)(h:d<16):hexc d≠32:=by
 have:d=0∨d=1∨d=2∨d=3∨d=4∨d=5∨d=6∨d=7∨d=8∨d=9∨d=10∨d=11∨d=12∨d=13∨d=14∨d=15:=by omega
 rcases this with rfl|rfl|rfl|rfl|rfl|rfl|rfl|rfl|rfl|rfl|rfl|rfl|rfl|rfl|rfl|rfl<;>decide
theorem digB_sp (u:Nat):(32:UInt8)∉digB 16 u:=fun h=>by
 obtain⟨d,hd,e⟩:=digB_signs 16 (by omega) (by omega) u u (Nat.le_refl _) _ h
 exact hexc_sp d hd e.symm
theorem dec_sp (u:Nat):(32:UInt8)∉decDigits u:=fun h=>by
 obtain⟨d,hd,e⟩:=decDigits_signs u _ h
 exact hexc_sp d hd e.symm
theorem adText_sp (s:Bool)(B:Nat→Int):(32:UInt8)∉adText s B:=by
 intro h
 have hj:∀(c:UInt8) (L:List (List UInt8)),c≠32→(∀p∈L,(32:UInt8)∉p)→(32:UInt8)∉joinL c L:=fun c L hc hL h=>by
  rcases joinL_mem _ _ _ h with h|⟨p,hp,hx⟩
  ·exact hc h.symm
  ·exact hL p hp hx
 have hm:∀p∈(List.range 8).map fun i=>digB 16 (grpN B i),(32:UInt8)∉p:=fun p hp=>by
  obtain⟨i,-,rfl⟩:=List.mem_map.1 hp
  exact digB_sp _
 unfold adText at h
 split at h
 ·split at h
  ·rw[text6_of] at h
   split at h
   ·exact hj 58 _ (by decide) hm h
   ·rcases List.mem_append.1 h with h|h
    ·rcases List.mem_append.1 h with h|h
     ·exact hj 58 _ (by decide) (fun p hp=>hm p (List.mem_of_mem_take hp)) h
     ·simp at h
    ·exact hj 58 _ (by decide) (fun p hp=>hm p (List.mem_of_mem_drop hp)) h
  ·refine hj 46 _ (by decide) (fun p hp=>?_) h
   obtain⟨i,-,rfl⟩:=List.mem_map.1 hp
   exact dec_sp _
 ·simp at h
theorem joinL_cuts (c:UInt8):∀l:List UInt8,joinL c (cutsL c l)=l
 |[]=>rfl
 |x::r=>by
  have ih:=joinL_cuts c r
  unfold cutsL
  cases hc:cutsL c r with
  |nil=>exact absurd hc (cutsL_ne c r)
  |cons h t=>
   rw[hc] at ih
   by_cases hx:x=c
   ·rw[if_pos hx,joinL_cons2,ih,hx];rfl
   ·rw[if_neg hx]
    cases t with
    |nil=>simp only[joinL] at ih⊢;rw[ih]
    |cons q t=>rw[joinL_cons2] at ih⊢;rw[List.cons_append,ih]
def kyParts (k:Ky):List (List UInt8):=[decDigits k.p.toNat,adText k.s k.S,decDigits k.a.toNat,adText k.t k.T,decDigits k.b.toNat]
theorem kyText_yes {k:Ky}(h:kyRight k=true):kyText k=joinL 32 (kyParts k):=by unfold kyText;rw[if_pos h];rfl
theorem kyText_no {k:Ky}(h:kyRight k=false):kyText k=[]:=by unfold kyText;rw[if_neg (by rw[h];decide)]
theorem kyText_cuts {k:Ky}(h:kyRight k=true):cutsL 32 (kyText k)=kyParts k:=by
 rw[kyText_yes h]
 refine cutsL_join 32 _ (by simp[kyParts]) (fun p hp=>?_)
 simp only[kyParts,List.mem_cons,List.not_mem_nil,or_false] at hp
 rcases hp with rfl|rfl|rfl|rfl|rfl
 ·exact dec_sp _
 ·exact adText_sp _ _
 ·exact dec_sp _
 ·exact adText_sp _ _
 ·exact dec_sp _
def kyRead (s:List UInt8):Option Ky:=match cutsL 32 s with
 |[x0,x1,x2,x3,x4]=>match decL 256 x0,parseL x1,decL 65536 x2,parseL x3,decL 65536 x4 with
  |some p,some (s1,S),some a,some (t1,T),some b=>if kyRight ⟨s1,S,t1,T,p,a,b⟩=true∧adText s1 S=x1∧adText t1 T=x3 then some ⟨s1,S,t1,T,p,a,b⟩ else none
  |_,_,_,_,_=>none
 |_=>none
def kyReadV (o:Option Ky):Value:=match o with
 |some k=>.tuple #[.agg (kyV k),.int .i64 0]
 |none=>.tuple #[.agg (kyV kyZ),.int .i64 40]
theorem kyRead_len {s:List UInt8}(h:(cutsL 32 s).length≠5):kyRead s=none:=by
 unfold kyRead
 split
 ·rename_i e;rw[e] at h;exact absurd rfl h
 ·rfl
theorem kyRead_no1 {s x0 x1 x2 x3 x4:List UInt8}(hc:cutsL 32 s=[x0,x1,x2,x3,x4])(h:parseL x1=none):kyRead s=none:=by
 unfold kyRead
 rw[hc]
 simp only[h]
 split<;>first|rfl|contradiction
theorem kyRead_no3 {s x0 x1 x2 x3 x4:List UInt8}(hc:cutsL 32 s=[x0,x1,x2,x3,x4])(h:parseL x3=none):kyRead s=none:=by
 unfold kyRead
 rw[hc]
 simp only[h]
 split<;>first|rfl|contradiction
theorem kyRead_is {s x0 x1 x2 x3 x4:List UInt8}(hc:cutsL 32 s=[x0,x1,x2,x3,x4]){s1 t1:Bool}{S T:Nat→Int}(h1:parseL x1=some (s1,S))(h3:parseL x3=some (t1,T))(u0 u2 u4:Nat)(b0:u0<256)(b2:u2<65536)(b4:u4<65536)
 (w0:∀n,n<256→x0=decDigits n→u0=n)(w2:∀n,n<65536→x2=decDigits n→u2=n)(w4:∀n,n<65536→x4=decDigits n→u4=n):
 kyRead s=if kyText ⟨s1,S,t1,T,u0,u2,u4⟩=s then some ⟨s1,S,t1,T,u0,u2,u4⟩ else none:=by
 by_cases ht:kyText ⟨s1,S,t1,T,u0,u2,u4⟩=s
 ·rw[if_pos ht]
  cases hr:kyRight ⟨s1,S,t1,T,u0,u2,u4⟩ with
  |false=>
   rw[kyText_no hr] at ht
   subst ht
   cases hc
  |true=>
   have hp:=kyText_cuts hr
   rw[ht,hc] at hp
   simp only[kyParts,Int.toNat_natCast,List.cons.injEq,and_true] at hp
   obtain⟨e0,e1,e2,e3,e4⟩:=hp
   unfold kyRead
   rw[hc]
   simp only[decL_some.2 ⟨b0,e0⟩,decL_some.2 ⟨b2,e2⟩,decL_some.2 ⟨b4,e4⟩,h1,h3]
   rw[if_pos ⟨hr,e1.symm,e3.symm⟩]
 ·rw[if_neg ht]
  unfold kyRead
  rw[hc]
  simp only[h1,h3]
  split
  ·rename_i p s1' S' a t1' T' b h0 e1 h2 e3 h4
   cases e1
   cases e3
   obtain⟨l0,e0⟩:=decL_some.1 h0
   obtain⟨l2,e2⟩:=decL_some.1 h2
   obtain⟨l4,e4⟩:=decL_some.1 h4
   obtain rfl:=w0 p l0 e0
   obtain rfl:=w2 a l2 e2
   obtain rfl:=w4 b l4 e4
   by_cases hR:kyRight ⟨s1,S,t1,T,u0,u2,u4⟩=true∧adText s1 S=x1∧adText t1 T=x3
   ·refine absurd ?_ ht
    rw[kyText_yes hR.1,←joinL_cuts 32 s,hc]
    simp only[kyParts,Int.toNat_natCast]
    rw[hR.2.1,hR.2.2,←e0,←e2,←e4]
   ·rw[if_neg hR]
  ·rfl
open Go.RowKit
theorem parseM_append (M:Nat):∀(l:List UInt8) (acc:Nat) (r:List UInt8) (m:Nat),Lib.parseUintM M acc l=.ok m→Lib.parseUintM M acc (l++r)=Lib.parseUintM M m r
 |[],acc,r,m,h=>by simp only[Lib.parseUintM,Lib.NumEnd.ok.injEq] at h;subst h;rfl
 |c::l,acc,r,m,h=>by
  rw[List.cons_append,Lib.parseUintM]
  rw[Lib.parseUintM] at h
  split
  ·rename_i hc
   rw[if_pos hc] at h
   split
   ·rename_i h2;rw[if_pos h2] at h;cases h
   ·rename_i h2
    rw[if_neg h2] at h
    split
    ·rename_i h3;rw[if_pos h3] at h;cases h
    ·rename_i h3;rw[if_neg h3] at h;exact parseM_append M l _ r m h
  ·rename_i hc;rw[if_neg hc] at h;cases h
theorem parseM_dec (M:Nat)(hM:M≤65535):∀(k u:Nat),u≤k→u≤M→Lib.parseUintM M 0 (Lib.decDigits u)=.ok u
 |0,u,hk,hm=>by
  obtain rfl:u=0:=by omega
  rw[Lib.decDigits,dif_pos (by omega),Lib.parseUintM,toNat_dec 0 (by omega),if_pos (by omega),if_neg (by omega),if_neg (by omega),Lib.parseUintM]
 |k+1,u,hk,hm=>by
  rw[Lib.decDigits]
  by_cases h:u<10
  ·rw[dif_pos h,Lib.parseUintM,toNat_dec u h,if_pos (by omega),if_neg (by omega),if_neg (by omega),Lib.parseUintM]
   congr 1;omega
  ·rw[dif_neg h,parseM_append M _ _ _ _ (parseM_dec M hM k (u/10) (by omega) (by omega)),Lib.parseUintM,toNat_dec _ (by omega),if_pos (by omega),if_neg (by omega),if_neg (by omega),Lib.parseUintM]
   congr 1;omega
def PuPost (w:World)(M:Nat)(l:List UInt8):Ending→World→Prop:=fun e w'=>∃(u:Nat) (er:Value),e=.returned (.tuple #[.int .u64 u,er])∧u<M∧(∀n,n<M→l=Lib.decDigits n→u=n)∧Below w.heap.size w w'
theorem pu_dec (B:Nat)(hB:2^B-1≤65535)(l:List UInt8)(n:Nat)(hn:n<2^B)(h:l=Lib.decDigits n):Lib.parseUintB B l=.ok n:=by
 subst h
 unfold Lib.parseUintB
 rw[if_neg (decDigits_ne n)]
 exact parseM_dec _ hB n n (Nat.le_refl _) (by omega)
theorem pu8_any (t:ByteArray)(hmax:t.size≤1000)(w:World)(henv:Env w):
 Calls Tryz.prog 58 #[.string t,.int .i64 10,.int .i64 8] w (PuPost w 256 t.data.toList):=by
 have hd:∀n,n<256→t.data.toList=Lib.decDigits n→Lib.parseUintB 8 t.data.toList=.ok n:=fun n hn h=>pu_dec 8 (by decide) _ n (by omega) h
 obtain⟨t1,p1,h1⟩:=henv.syn
 obtain⟨t2,p2,h2⟩:=henv.rng
 rcases hR:Lib.parseUintB 8 t.data.toList with u|_|_
 ·refine(Tryz.strconv_ParseUint_10_at8_ok t (by omega) u hR w).mono ?_
  rintro e w' ⟨rfl,hw⟩
  refine⟨u,_,rfl,?_,fun n hn h=>?_,?_⟩
  ·have:=Lib.parseUintB_le hR;omega
  ·have:=hd n hn h;rw[hR] at this;exact Lib.NumEnd.ok.inj this
  ·rcases hw with rfl|rfl
   ·exact Below.refl _ _
   ·exact bytesWorld_below _ _
 ·first
  |(refine(Tryz.strconv_ParseUint_10_at8_syntax t (by omega) (hR.trans rfl) _ w h1 (.inr ⟨_,_,rfl⟩)).mono ?_
    rintro e w' ⟨N,rfl,-,-,hb⟩
    exact⟨0,_,rfl,by omega,(fun n hn h=>by have:=hd n hn h;rw[hR] at this;cases this),hb⟩)
  |(refine(Tryz.strconv_ParseUint_10_at8_range t (by omega) hR _ w h2 (.inr ⟨_,_,rfl⟩)).mono ?_
    rintro e w' ⟨N,rfl,-,-,hb⟩
    exact⟨255,_,rfl,by omega,(fun n hn h=>by have:=hd n hn h;rw[hR] at this;cases this),hb⟩)
 ·first
  |(refine(Tryz.strconv_ParseUint_10_at8_range t (by omega) hR _ w h2 (.inr ⟨_,_,rfl⟩)).mono ?_
    rintro e w' ⟨N,rfl,-,-,hb⟩
    exact⟨255,_,rfl,by omega,(fun n hn h=>by have:=hd n hn h;rw[hR] at this;cases this),hb⟩)
  |(refine(Tryz.strconv_ParseUint_10_at8_syntax t (by omega) (hR.trans rfl) _ w h1 (.inr ⟨_,_,rfl⟩)).mono ?_
    rintro e w' ⟨N,rfl,-,-,hb⟩
    exact⟨0,_,rfl,by omega,(fun n hn h=>by have:=hd n hn h;rw[hR] at this;cases this),hb⟩)
theorem pu16_any (t:ByteArray)(hmax:t.size≤1000)(w:World)(henv:Env w):
 Calls Tryz.prog 58 #[.string t,.int .i64 10,.int .i64 16] w (PuPost w 65536 t.data.toList):=by
 have hd:∀n,n<65536→t.data.toList=Lib.decDigits n→Lib.parseUintB 16 t.data.toList=.ok n:=fun n hn h=>pu_dec 16 (by decide) _ n (by omega) h
 obtain⟨t1,p1,h1⟩:=henv.syn
 obtain⟨t2,p2,h2⟩:=henv.rng
 rcases hR:Lib.parseUintB 16 t.data.toList with u|_|_
 ·refine(Tryz.strconv_ParseUint_10_at16_ok t (by omega) u hR w).mono ?_
  rintro e w' ⟨rfl,hw⟩
  refine⟨u,_,rfl,?_,fun n hn h=>?_,?_⟩
  ·have:=Lib.parseUintB_le hR;omega
  ·have:=hd n hn h;rw[hR] at this;exact Lib.NumEnd.ok.inj this
  ·rcases hw with rfl|rfl
   ·exact Below.refl _ _
   ·exact bytesWorld_below _ _
 ·first
  |(refine(Tryz.strconv_ParseUint_10_at16_syntax t (by omega) (hR.trans rfl) _ w h1 (.inr ⟨_,_,rfl⟩)).mono ?_
    rintro e w' ⟨N,rfl,-,-,hb⟩
    exact⟨0,_,rfl,by omega,(fun n hn h=>by have:=hd n hn h;rw[hR] at this;cases this),hb⟩)
  |(refine(Tryz.strconv_ParseUint_10_at16_range t (by omega) hR _ w h2 (.inr ⟨_,_,rfl⟩)).mono ?_
    rintro e w' ⟨N,rfl,-,-,hb⟩
    exact⟨65535,_,rfl,by omega,(fun n hn h=>by have:=hd n hn h;rw[hR] at this;cases this),hb⟩)
 ·first
  |(refine(Tryz.strconv_ParseUint_10_at16_range t (by omega) hR _ w h2 (.inr ⟨_,_,rfl⟩)).mono ?_
    rintro e w' ⟨N,rfl,-,-,hb⟩
    exact⟨65535,_,rfl,by omega,(fun n hn h=>by have:=hd n hn h;rw[hR] at this;cases this),hb⟩)
  |(refine(Tryz.strconv_ParseUint_10_at16_syntax t (by omega) (hR.trans rfl) _ w h1 (.inr ⟨_,_,rfl⟩)).mono ?_
    rintro e w' ⟨N,rfl,-,-,hb⟩
    exact⟨0,_,rfl,by omega,(fun n hn h=>by have:=hd n hn h;rw[hR] at this;cases this),hb⟩)
open Go.RowKit
theorem owns_row {w:World}{b:Nat}{vs:List Value}{t:TypeId}(h:w.heap[b]? =some (.cells vs.toArray t (0,0)))(hm:vs.length≤maxLen):Owns w b 1 (some ⟨b,0,none⟩) vs.length vs.length vs:=by
 refine⟨by simp,Nat.le_refl _,hm,.inr ⟨b,0,rfl,Nat.le_refl _,(Array.getElem?_eq_some_iff.1 h).1,fun j u hu=>?_,fun j hj=>⟨?_,?_⟩⟩⟩
 ·rw[Nat.zero_add,cell_of_row _ _ _ _ _ _ h];simpa using hu
 ·rw[Nat.zero_add,cell_of_row _ _ _ _ _ _ h];simp;omega
 ·exact frozen_of_row _ _ _ _ _ h
def NewN (w:World)(m:Nat)(l:List Int):Ending→World→Prop:=fun e w'=>∃oa cap,e=.returned (.slice oa m cap)∧Reads w' oa m cap l∧Below w.heap.size w w'
theorem NewBytes.n {w:World}{m:Nat}{l:List Int}(hm:l.length=m)(hl:∀v∈l,0≤v∧v<256){e:Ending}{w':World}(h:NewBytes w l e w'):NewN w m l e w':=by
 subst hm
 obtain⟨oa,cap,h1,h2,h3⟩:=h
 exact⟨oa,cap,h1,h2.reads hl,h3⟩
theorem adBytes_isb {B:Nat→Int}(hB:U8 B)(s:Bool):IsBytes (adBytes s B):=by
 intro v hv
 unfold adBytes at hv
 obtain⟨i,-,rfl⟩:=List.mem_map.1 hv
 exact hB i
def spC (s:Bool)(S:Nat→Int)(t:Bool)(T:Nat→Int)(p a b f d:Int):Array Value:=#[.bool s,.int .u8 (S 0),.int .u8 (S 1),.int .u8 (S 2),.int .u8 (S 3),.int .u8 (S 4),.int .u8 (S 5),.int .u8 (S 6),.int .u8 (S 7),.int .u8 (S 8),.int .u8 (S 9),.int .u8 (S 10),.int .u8 (S 11),.int .u8 (S 12),.int .u8 (S 13),.int .u8 (S 14),.int .u8 (S 15),.bool t,.int .u8 (T 0),.int .u8 (T 1),.int .u8 (T 2),.int .u8 (T 3),.int .u8 (T 4),.int .u8 (T 5),.int .u8 (T 6),.int .u8 (T 7),.int .u8 (T 8),.int .u8 (T 9),.int .u8 (T 10),.int .u8 (T 11),.int .u8 (T 12),.int .u8 (T 13),.int .u8 (T 14),.int .u8 (T 15),.int .u8 p,.int .u16 a,.int .u16 b,.int .u8 f,.int .i64 d]
theorem ipput_spec (S T:Nat→Int)(p tot:Int)(hS:U8 S)(hT:U8 T)(hp:0≤p∧p<256)(ht:20≤tot∧tot<65536)(w:World):
 Calls Tryz.prog 53 #[.agg #[.int .u8 0,.int .u16 tot,.int .u16 0,.bool false,.bool false,.int .u16 0,.int .u8 64,.int .u8 p,.int .u8 (S 0),.int .u8 (S 1),.int .u8 (S 2),.int .u8 (S 3),.int .u8 (T 0),.int .u8 (T 1),.int .u8 (T 2),.int .u8 (T 3),.slice none 0 0]] w (BytesErr w (ipPut ⟨0,tot,0,false,false,0,64,p,adBytes false S,adBytes false T,[]⟩) 0):=by
 have hx:ipRight ⟨0,tot,0,false,false,0,64,p,adBytes false S,adBytes false T,[]⟩=true:=by
  unfold ipRight
  simp
  omega
 have h:=ipput_yes ⟨0,tot,0,false,false,0,64,p,adBytes false S,adBytes false T,[]⟩ none 0 w ⟨(show(0:Int)≤0∧(0:Int)<256 by decide),⟨by show 0≤tot;omega,ht.2⟩,(show(0:Int)≤0∧(0:Int)<65536 by decide),(show(0:Int)≤0∧(0:Int)<65536 by decide),(show(0:Int)≤64∧(64:Int)<256 by decide),hp,⟨adBytes_len _ _,adBytes_isb hS _⟩,⟨adBytes_len _ _,adBytes_isb hT _⟩,fun v hv=>by cases hv⟩ ⟨rfl,Nat.le_refl _,Nat.zero_le _,(fun v hv=>by cases hv),.inl rfl⟩ (fun a h=>by cases h) hx
 unfold ipPutL ipPutErr at h
 rw[hx] at h
 exact h
theorem sxput_spec (S T:Nat→Int)(p n:Int)(hS:U8 S)(hT:U8 T)(hp:0≤p∧p<256)(hn:0≤n∧n<65536)(w:World):
 Calls Tryz.prog 55 #[.agg #[.int .u8 0,.int .u32 0,.int .u16 n,.int .u8 p,.int .u8 64,.int .u8 (S 0),.int .u8 (S 1),.int .u8 (S 2),.int .u8 (S 3),.int .u8 (S 4),.int .u8 (S 5),.int .u8 (S 6),.int .u8 (S 7),.int .u8 (S 8),.int .u8 (S 9),.int .u8 (S 10),.int .u8 (S 11),.int .u8 (S 12),.int .u8 (S 13),.int .u8 (S 14),.int .u8 (S 15),.int .u8 (T 0),.int .u8 (T 1),.int .u8 (T 2),.int .u8 (T 3),.int .u8 (T 4),.int .u8 (T 5),.int .u8 (T 6),.int .u8 (T 7),.int .u8 (T 8),.int .u8 (T 9),.int .u8 (T 10),.int .u8 (T 11),.int .u8 (T 12),.int .u8 (T 13),.int .u8 (T 14),.int .u8 (T 15)]] w (BytesErr w (Bits.be4 1610612736++be2 n++[p,64]++adBytes true S++adBytes true T) 0):=
 sxput_any ⟨0,0,n,p,64,adBytes true S,adBytes true T⟩ w ⟨(show(0:Int)≤0∧(0:Int)<256 by decide),(show(0:Int)≤0∧(0:Int)<4294967296 by decide),hn,hp,(show(0:Int)≤64∧(64:Int)<256 by decide),⟨adBytes_len _ _,adBytes_isb hS _⟩,⟨adBytes_len _ _,adBytes_isb hT _⟩⟩
theorem sphead_six (S:Nat→Int)(t:Bool)(T:Nat→Int)(p a b f d:Int)(n:Nat)(hn:n≤60000)(hS:U8 S)(hT:U8 T)(hp:0≤p∧p<256)(w:World):
 Calls Tryz.prog 44 #[.agg (spC true S t T p a b f d),.int .i64 n] w (BytesErr w (Bits.be4 1610612736++be2 (n:Int)++[p,64]++adBytes true S++adBytes true T) 0):=by
 have HP:=Lib.hid (sxput_spec S T p n hS hT hp (by omega))
 have hw:IntKind.u16.wrap (n:Int)=n:=by rw[IntKind.wrap_u16];omega
 generalize Bits.be4 1610612736++be2 (n:Int)++[p,64]++adBytes true S++adBytes true T=L at*
 clear hS hT hp hn
 unfold spC
 go_enter Tryz.func44,Tryz.ntmps44
 go_wp2_with fail
 refine Calls.mono (HP.out _) ?_
 rintro e w2 ⟨oa,cap,rfl,ho,hb⟩
 go_wp2_with fail
 go_ret2
 exact⟨oa,cap,rfl,ho.mono (by simp),Below.via (Below.all (Below.refl _ _) _) hb⟩
theorem sphead_four (S:Nat→Int)(t:Bool)(T:Nat→Int)(p a b f d:Int)(n:Nat)(hn:n≤60000)(hS:U8 S)(hT:U8 T)(hp:0≤p∧p<256)(w:World):
 Calls Tryz.prog 44 #[.agg (spC false S t T p a b f d),.int .i64 n] w (BytesErr w (ipPut ⟨0,20+(n:Int),0,false,false,0,64,p,adBytes false S,adBytes false T,[]⟩) 0):=by
 have HP:=Lib.hid (ipput_spec S T p (20+(n:Int)) hS hT hp (by omega))
 have hw:IntKind.u16.wrap (20+(n:Int))=20+(n:Int):=by rw[IntKind.wrap_u16];omega
 have hw2:IntKind.i64.wrap (20+(n:Int))=20+(n:Int):=by rw[IntKind.wrap_i64];omega
 have hn2:(n:Int)≤60000:=by omega
 generalize ipPut ⟨0,20+(n:Int),0,false,false,0,64,p,adBytes false S,adBytes false T,[]⟩=L at*
 clear hS hT hp hn
 have hX:(w.alloc (.cells (spC false S t T p a b f d) 47)).heap[w.heap.size]? =some (.cells (spC false S t T p a b f d) 47 (0,0)):=heap_alloc_new w _
 have HB:Hid (Below w.heap.size w (w.alloc (.cells (spC false S t T p a b f d) 47))):=Lib.hid (Below.all (Below.refl _ _) _)
 have HX:=Lib.hid hX
 clear hX
 unfold spC at HB⊢
 go_enter Tryz.func44,Tryz.ntmps44
 go_wp2_with fail
 have HX':=HX.out
 unfold spC at HX'
 obtain⟨b0,hb0⟩:∃b,b=w.heap.size:=⟨_,rfl⟩
 rw[←hb0] at HX'⊢
 have HB0:=Lib.hid hb0
 clear hb0
 generalize w.alloc _=y at*
 have hlt:b0<y.heap.size:=(Array.getElem?_eq_some_iff.1 HX').1
 have HY:=Lib.hid HX'
 clear HX' HX
 refine wp_region_sc [.h,.h,.h,.h,.h,.h,.h,.h,.h,.h,.h,.h,.h,.h,.h,.h,.h,.h,.h] [] (fun _ _=>True) [] [(.w,19),(.q,20),(.q,21),(.q,22),(.q,23)] (by kernel_rfl) (by kernel_rfl) (by kernel_rfl) (by kernel_rfl) ?_
 apply Exists.intro
 refine⟨fun wx hbx=>?_,by simp,?_⟩
 ·have hxx:=(hbx.block b0 hlt).trans HY.out
  have hbx2:b0<wx.heap.size:=Nat.lt_of_lt_of_le hlt hbx.size
  have c34:wx.cell? ⟨b0,34,none⟩=some (.int .u8 p):=cell_of_row _ _ 34 _ _ (0,0) hxx
  have harr1:=run_array4 (P:=Tryz.prog) 111 _ Tryz.underlying111 (some ⟨b0,1,none⟩) 4 16 (by omega)
  have harr2:=run_array4 (P:=Tryz.prog) 111 _ Tryz.underlying111 (some ⟨b0,18,none⟩) 4 16 (by omega)
  have p1:partOf wx b0 1 4=#[.int .u8 (S 0),.int .u8 (S 1),.int .u8 (S 2),.int .u8 (S 3)]:=by rw[partOf_row _ _ _ _ _ _ _ hxx];simp
  have p2:partOf wx b0 18 4=#[.int .u8 (T 0),.int .u8 (T 1),.int .u8 (T 2),.int .u8 (T 3)]:=by rw[partOf_row _ _ _ _ _ _ _ hxx];simp
  clear hxx hbx
  simp only[headsL]
  repeat go_big_quiet_step (fail)
  exact wpQuiet_nil rfl
 simp only[opsAt,List.getElem?_cons_succ,List.getElem?_cons_zero]
 refine⟨fun v fl w2=>∃oP cP,v=.tuple #[.slice oP L.length cP,.int .i64 0]∧Owns w2 y.heap.size 1 oP L.length cP (L.map (.int .u8))∧Below y.heap.size y w2,?_,fun _ _=>kept_none,(fun h=>by cases h),?_⟩
 ·rintro fl rfl
  refine⟨rfl,fun w' hw'=>.inr ⟨53,#[.agg #[.int .u8 0,.int .u16 (20+(n:Int)),.int .u16 0,.bool false,.bool false,.int .u16 0,.int .u8 64,.int .u8 p,.int .u8 (S 0),.int .u8 (S 1),.int .u8 (S 2),.int .u8 (S 3),.int .u8 (T 0),.int .u8 (T 1),.int .u8 (T 2),.int .u8 (T 3),.slice none 0 0]],by kernel_rfl,?_⟩⟩
  obtain⟨⟨x,rfl⟩,-⟩:=hw'
  refine(HP.out x.world).mono ?_
  rintro e w2 ⟨oP,cP,rfl,ho,hb⟩
  exact⟨_,rfl,oP,cP,rfl,ho.mono x.below.size,Below.via x.below hb⟩
 rintro v ⟨fl3,w23,oP,cP,rfl,-⟩
 refine⟨.slice oP L.length cP,⟨rfl,fun _=>by kernel_rfl⟩,?_⟩
 refine⟨.int .i64 0,⟨rfl,fun _=>by kernel_rfl⟩,?_⟩
 refine⟨.slice oP L.length cP,⟨rfl,fun _=>by kernel_rfl⟩,?_⟩
 refine⟨.int .i64 0,⟨rfl,fun _=>by kernel_rfl⟩,?_⟩
 rintro y3 ⟨oP',cP',he,hoP,hb3⟩
 obtain⟨rfl,rfl⟩:oP=oP'∧cP=cP':=by simpa using he
 clear he w23 fl3
 go_wp2_with fail
 go_ret2
 exact⟨_,_,rfl,hoP.mono HB.out.size,HB.out.trans (hb3.mono HB.out.size)⟩
open Go.RowKit
theorem decDigits_len16 (u:Nat)(h:u<65536):(Lib.decDigits u).length≤65536:=by
 rw[←digB_ten u u (Nat.le_refl _)]
 have:=digB_len 10 u u (Nat.le_refl _)
 omega
theorem wideStr {ops:Array Oper}{w:World}{o:Oper}{a:Act}{gs:List Made}(vs:List (List UInt8))(len:Nat)(parts:Array (Nat×Operand))(ho:o.op=.buildSlice 76 len parts)(hw:Region.wanted o (yielded ops a.tmps)=true)
 (hl:0<len∧len≤100)(hf:Instr.fill (fun i=>some (i*1,1)) ((Array.range (len*1)).map ((Value.string ⟨#[]⟩).cells[·%(Value.string ⟨#[]⟩).cells.size]!)) (parts.map fun(i,x)=>(i,a.eval x)).toList=some (vs.map strV).toArray):
 WideF Tryz.prog ops w gs o (builtR (.cells (vs.map strV).toArray 9) len) a:=by
 obtain⟨ie,hie,hz,h4,h5⟩:=info_parts info_str
 refine Wide.f (wide_slice 76 9 len parts ho hw _ ie (.string ⟨#[]⟩) (by kernel_rfl) hie hz ?_ ?_ ?_) gs
 ·rw[h4];omega
 ·rw[h4];omega
 ·rw[h4];exact hf
theorem ktext_yes (s:Bool)(S:Nat→Int)(t:Bool)(T:Nat→Int)(p a b:Nat)(hr:kyRight ⟨s,S,t,T,p,a,b⟩=true)(hS:U8 S)(hT:U8 T)(hp:p<256)(ha:a<65536)(hb:b<65536)(w:World)(henv:Env w):
 Calls Tryz.prog 28 #[.agg (kyC s S t T p a b)] w (RetAt w (.string ⟨(joinL 32 [Lib.decDigits p,adText s S,Lib.decDigits a,adText t T,Lib.decDigits b]).toArray⟩)):=by
 have HR:=fun w=>kright_any s S t T p a b w
 rw[hr] at HR
 have HE:=Lib.hid henv
 have HI0:=Lib.hid (fun w h=>itoa_any p (by omega) w h)
 have HI2:=Lib.hid (fun w h=>itoa_any a (by omega) w h)
 have HI4:=Lib.hid (fun w h=>itoa_any b (by omega) w h)
 have HA1:=Lib.hid (fun w h=>text_any s S hS w h)
 have HA3:=Lib.hid (fun w h=>text_any t T hT w h)
 have hj:(joinL 32 [Lib.decDigits p,adText s S,Lib.decDigits a,adText t T,Lib.decDigits b]).length≤140737488355328:=by
  refine Nat.le_trans (joinL_len 32 100000 _ fun q hq=>?_) (by simp)
  simp only[List.mem_cons,List.not_mem_nil,or_false] at hq
  rcases hq with rfl|rfl|rfl|rfl|rfl
  ·have:=decDigits_len16 p (by omega);omega
  ·have:=adText_max s S hS;omega
  ·have:=decDigits_len16 a (by omega);omega
  ·have:=adText_max t T hT;omega
  ·have:=decDigits_len16 b (by omega);omega
 have HJ:=Lib.hid (fun bk w ho=>join_any (some ⟨bk,0,none⟩) 5 5 bk [Lib.decDigits p,adText s S,Lib.decDigits a,adText t T,Lib.decDigits b] 32 w ho hj (by decide))
 clear hr henv hS hT hj
 generalize joinL 32 [Lib.decDigits p,adText s S,Lib.decDigits a,adText t T,Lib.decDigits b]=J at*
 generalize Lib.decDigits p=d0 at*
 generalize adText s S=d1 at*
 generalize Lib.decDigits a=d2 at*
 generalize adText t T=d3 at*
 generalize Lib.decDigits b=d4 at*
 unfold kyC adV at*
 go_enter Tryz.func28,Tryz.ntmps28
 go_wp2_with fail
 refine Calls.later (HR _) ?_
 intro x
 have h1:x.world.heap[w.heap.size]? =some (.cells (kyC s S t T p a b) 30 (0,0)):=(x.below.block _ (by simp)).trans (heap_alloc_new w (.cells (kyC s S t T p a b) 30))
 have HB:Hid (Below w.heap.size w x.world):=Lib.hid (Below.lat (Below.all (Below.refl _ _) _))
 go_wp2_with fail
 generalize x.world=y at*
 have H1:=Lib.hid h1
 clear h1
 refine wp_region_late 18 [true] (by kernel_rfl) (by kernel_rfl) (by kernel_rfl) ?_
 apply Exists.intro
 refine⟨fun wx hbx=>?_,?_⟩
 ·have hr:wx.heap[w.heap.size]? =some (.cells (kyC s S t T p a b) 30 (0,0)):=(hbx.block _ (Array.getElem?_eq_some_iff.1 H1.out).1).trans H1.out
  have hlt:w.heap.size<wx.heap.size:=(Array.getElem?_eq_some_iff.1 hr).1
  have HEx:=Lib.hid ((HE.out.below HB.out).below hbx)
  have p1:partOf wx w.heap.size 0 17=#[.bool s,.int .u8 (S 0),.int .u8 (S 1),.int .u8 (S 2),.int .u8 (S 3),.int .u8 (S 4),.int .u8 (S 5),.int .u8 (S 6),.int .u8 (S 7),.int .u8 (S 8),.int .u8 (S 9),.int .u8 (S 10),.int .u8 (S 11),.int .u8 (S 12),.int .u8 (S 13),.int .u8 (S 14),.int .u8 (S 15)]:=by rw[partOf_row _ _ _ _ _ _ _ hr];simp[kyC]
  have p2:partOf wx w.heap.size 17 17=#[.bool t,.int .u8 (T 0),.int .u8 (T 1),.int .u8 (T 2),.int .u8 (T 3),.int .u8 (T 4),.int .u8 (T 5),.int .u8 (T 6),.int .u8 (T 7),.int .u8 (T 8),.int .u8 (T 9),.int .u8 (T 10),.int .u8 (T 11),.int .u8 (T 12),.int .u8 (T 13),.int .u8 (T 14),.int .u8 (T 15)]:=by rw[partOf_row _ _ _ _ _ _ _ hr];simp[kyC]
  have c34:wx.cell? ⟨w.heap.size,34,none⟩=some (.int .u8 (p:Int)):=cell_of_row _ _ 34 _ _ (0,0) hr
  have c35:wx.cell? ⟨w.heap.size,35,none⟩=some (.int .u16 (a:Int)):=cell_of_row _ _ 35 _ _ (0,0) hr
  have c36:wx.cell? ⟨w.heap.size,36,none⟩=some (.int .u16 (b:Int)):=cell_of_row _ _ 36 _ _ (0,0) hr
  clear hr hbx
  simp only[List.take_succ_cons,List.take_zero]
  repeat go_big_quiet_step (fail)
  go_big_quiet_step ((go_at_call 71;exact later_call (HI0.out _ (HEx.out.below (Later.below _)))))
  repeat go_big_quiet_step (fail)
  go_big_quiet_step ((go_at_call 72;exact later_call (HA1.out _ (HEx.out.below (Later.below _)))))
  repeat go_big_quiet_step (fail)
  go_big_quiet_step ((go_at_call 71;exact later_call (HI2.out _ (HEx.out.below (Later.below _)))))
  repeat go_big_quiet_step (fail)
  go_big_quiet_step ((go_at_call 72;exact later_call (HA3.out _ (HEx.out.below (Later.below _)))))
  repeat go_big_quiet_step (fail)
  go_big_quiet_step ((go_at_call 71;exact later_call (HI4.out _ (HEx.out.below (Later.below _)))))
  exact wpQuiet_nil rfl
 ·simp only[List.drop_succ_cons,List.drop_zero,List.zip_cons_cons,List.zip_nil_left,List.length_cons,List.length_nil]
  refine wpLate_wide _ (wideStr [d0,d1,d2,d3,d4] 5 _ rfl rfl (by decide) (by simp[Instr.fill,Value.cells,go_sem,strV])) (builtR_stable _ _) ?_
  rintro lo hi v hlo hhi-⟨w0,rfl,-⟩
  refine wpLate_end ?_
  intro w' hb hal
  have hh:=((hal _ (List.mem_cons_self ..)).2 w' (Below.refl _ _)).2.2
  clear hal
  have HO:=Lib.hid (owns_row hh (by simp[maxLen]))
  clear hh
  go_wp2_with fail
  refine Calls.mono (HJ.out _ w' HO.out) ?_
  rintro e w5 ⟨rfl,hb5⟩
  go_wp2_with fail
  go_ret
  exact .mk rfl ((HB.out.trans (hb.mono HB.out.size)).trans (hb5.mono (Nat.le_trans HB.out.size hb.size)))
theorem ktext_any (k:Ky)(hk:KyOk k)(w:World)(henv:Env w):
 Calls Tryz.prog 28 #[.agg (kyV k)] w (RetAt w (.string ⟨(kyText k).toArray⟩)):=by
 obtain⟨s,S,t,T,p,a,b⟩:=k
 obtain⟨hS,hT,hp,ha,hb⟩:=hk
 simp only at hS hT hp ha hb
 cases hr:kyRight ⟨s,S,t,T,p,a,b⟩ with
 |false=>rw[kyText_no hr];exact ktext_no s S t T p a b hr w
 |true=>
  obtain⟨p,rfl⟩:=Int.eq_ofNat_of_zero_le hp.1
  obtain⟨a,rfl⟩:=Int.eq_ofNat_of_zero_le ha.1
  obtain⟨b,rfl⟩:=Int.eq_ofNat_of_zero_le hb.1
  rw[kyText_yes hr]
  simp only[kyParts,Int.toNat_natCast]
  exact ktext_yes s S t T p a b hr hS hT (by omega) (by omega) (by omega) w henv
open Go.RowKit
structure Bx (W w:World)(fs:List (Nat×Obj)):Prop where
 all:∀b o,(b,o)∈fs→w.heap[b]? =some o
 out:Below W.heap.size W w
theorem Bx.start (W:World):Bx W W []:=⟨fun _ _ h=>absurd h List.not_mem_nil,Below.refl _ _⟩
theorem Bx.go {W w w':World}{fs:List (Nat×Obj)}(h:Bx W w fs)(hb:Below w.heap.size w w'):Bx W w' fs:=
 ⟨fun b o hm=>(hb.block b (Array.getElem?_eq_some_iff.1 (h.all b o hm)).1).trans (h.all b o hm),Below.via h.out hb⟩
theorem Bx.box {W w:World}{fs:List (Nat×Obj)}(h:Bx W w fs)(cs:Array Value)(t:TypeId):Bx W (w.alloc (.cells cs t)) ((w.heap.size,.cells cs t (0,0))::fs):=by
 have h':=h.go (Below.all (Below.refl _ _) (.cells cs t))
 refine⟨fun b o hm=>?_,h'.out⟩
 rcases List.mem_cons.1 hm with e|hm
 ·cases e;exact heap_alloc_new w _
 ·exact h'.all b o hm
theorem Bx.at {W w:World}{fs:List (Nat×Obj)}(h:Bx W w fs)(i:Nat){b:Nat}{o:Obj}(hi:fs[i]? =some (b,o)):w.heap[b]? =some o:=h.all b o (List.mem_of_getElem? hi)
theorem Bx.lt {W w:World}{fs:List (Nat×Obj)}(h:Bx W w fs)(i:Nat){b:Nat}{o:Obj}(hi:fs[i]? =some (b,o)):b<w.heap.size:=(Array.getElem?_eq_some_iff.1 (h.at i hi)).1
theorem Bx.part {W w:World}{fs:List (Nat×Obj)}(h:Bx W w fs)(i:Nat){b n:Nat}{cs:Array Value}{t:TypeId}(hi:fs[i]? =some (b,.cells cs t (0,0)))(hs:cs.size=n):partOf w b 0 n=cs:=partOf_all (h.at i hi) hs
theorem Bx.row {W w:World}{fs:List (Nat×Obj)}(h:Bx W w fs)(i:Nat){b n:Nat}{cs:Array Value}{t:TypeId}(hi:fs[i]? =some (b,.cells cs t (0,0)))(hs:(cs.size==n)=true):rowFree w b n=true:=by rw[rowFree_row _ _ _ _ _ (h.at i hi)];exact hs
theorem Bx.cell {W w:World}{fs:List (Nat×Obj)}(h:Bx W w fs)(i j:Nat){b:Nat}{cs:Array Value}{t:TypeId}{v:Value}(hi:fs[i]? =some (b,.cells cs t (0,0)))(hj:cs[j]? =some v):w.cell? ⟨b,j,none⟩=some v:=by rw[cell_of_row _ _ _ _ _ _ (h.at i hi)];exact hj
theorem Bx.ret {P:Program}{f:FuncId}{args:Array Value}{W w:World}{fs:List (Nat×Obj)}{v:Value}{R:Ending→World→Prop}(h:Bx W w fs)(hc:Calls P f args w (RetAt w v))(k:∀w',Below w.heap.size w w'→Hid (Bx W w' fs)→R (.returned v) w'):Calls P f args w R:=
 hc.mono fun e w' ⟨he,hb⟩=>by subst he;exact k w' hb (Lib.hid (h.go hb))
def OBx (z:World)(b:Nat)(cs:Array Value)(t:TypeId)(w:World):Prop:=w.heap[b]? =some (.cells cs t (0,0))∧Below b z w∧∀i,i≠b→i<z.heap.size→w.heap[i]? =z.heap[i]?
theorem OBx.set {z w:World}{b:Nat}{cs:Array Value}{t:TypeId}(h:OBx z b cs t w)(k:Nat)(v:Value):OBx z b (cs.setIfInBounds k v) t (w.setCell ⟨b,k,none⟩ v):=
 ⟨heap_setCell_same _ b k cs t v h.1,h.2.1.setCell (Nat.le_refl _) _,fun i hi hl=>(Below.heap_setCell _ _ _ _ hi).trans (h.2.2 i hi hl)⟩
theorem OBx.later {z w w':World}{b:Nat}{cs:Array Value}{t:TypeId}(h:OBx z b cs t w)(hb:Below w.heap.size w w'):OBx z b cs t w':=by
 have hl:b<w.heap.size:=(Array.getElem?_eq_some_iff.1 h.1).1
 exact⟨(hb.block b hl).trans h.1,h.2.1.trans (hb.mono (Nat.le_of_lt hl)),fun i hi hz=>(hb.block i (Nat.lt_of_lt_of_le hz h.2.1.size)).trans (h.2.2 i hi hz)⟩
end
end Go.Proofs.YtkgjbipfhhjlpaaGreatDoor
