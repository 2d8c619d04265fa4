import Derived.Test.YtkgjbipfhhjlpaaGreatDoorMp24
set_option linter.unusedVariables false
set_option linter.unusedSimpArgs false
set_option maxRecDepth 100000
set_option maxHeartbeats 32000000
namespace Go.Proofs.YtkgjbipfhhjlpaaGreatDoor
section
open Go.RowKit
theorem rput_four_p (S T:Nat→Int)(p a b f d:Int)(ho:SpOk ⟨⟨false,S,false,T,p,a,b⟩,f,d⟩)(hg:spBad ⟨⟨false,S,false,T,p,a,b⟩,f,d⟩=false)(hbig:¬2048<d)(hip:isPorts p=true)(hq:(f != 0)=false∨((f != 0)=true∧(p != 6)=false))(w:World):
 Calls Tryz.prog 16 #[.agg (spC false S false T p a b f d)] w (BodyPost w (spL ⟨⟨false,S,false,T,p,a,b⟩,f,d⟩) (spErr ⟨⟨false,S,false,T,p,a,b⟩,f,d⟩)):=by
 have HK:Hid (KyOk ⟨false,S,false,T,p,a,b⟩):=Lib.hid ho.k
 have HF:Hid (0≤f∧f<256):=Lib.hid ho.f
 have HOK:=Lib.hid ho
 obtain⟨hr,hbh,-,h2⟩:=sp_parts hg
 have HR:Hid (∀w,Calls Tryz.prog 27 #[.agg (kyC false S false T p a b)] w (RetAt w (.bool true))):=Lib.hid fun w=>by have h:=rkright_any false S false T p a b w;rw[hr] at h;exact h
 obtain⟨sp,hsp⟩:∃sp:Sp,sp=⟨⟨false,S,false,T,p,a,b⟩,f,d⟩:=⟨_,rfl⟩
 rw[←hsp]
 have HSP:=Lib.hid hsp
 have hd0:=ho.n
 have hdn:¬d<0:=of_decide_eq_false h2
 have h3:decide (2048<d)=false:=decide_eq_false hbig
 have HG:Hid (spBad sp=false):=Lib.hid (by rw[hsp];exact hg)
 have HNB:Hid (¬2048<sp.n):=Lib.hid (by rw[hsp];exact hbig)
 have HBIG:=Lib.hid hbig
 clear hr ho hsp hg hbig
 clear hbh
 have hbx:=((Bx.start w).box (spC false S false T p a b f d) 52).box (kyC false S false T p a b) 38
 rw[show(w.alloc (.cells (spC false S false T p a b f d) 52)).heap.size=w.heap.size+1 by simp] at hbx
 have BX0:=Lib.hid hbx
 clear hbx
 unfold spC kyC at*
 go_enter Tryz.func16,Tryz.ntmps16
 go_wp2_with fail
 refine BX0.out.ret (HR.out _) ?_
 intro z1 hb1 BX1
 clear hb1 BX0
 have c37:z1.cell? ⟨w.heap.size,37,none⟩=some (.int .u8 f):=BX1.out.cell 1 37 rfl rfl
 have c38:z1.cell? ⟨w.heap.size,38,none⟩=some (.int .i64 d):=BX1.out.cell 1 38 rfl rfl
 have c34:z1.cell? ⟨w.heap.size+1,34,none⟩=some (.int .u8 p):=BX1.out.cell 0 34 rfl rfl
 rcases hq with hq|⟨hq,hq2⟩
 all_goals
  obtain⟨dn,hdd⟩:=Int.eq_ofNat_of_zero_le (show 0≤d by omega)
  have hdl:dn≤2048:=by have:=HBIG.out;omega
  have HDN:=Lib.hid (And.intro hdd hdl)
  have hmk:(Instr.makeSlice 22 (.int .i64 d) (.int .i64 d)).run Tryz.prog z1=.ok (.slice (some ⟨z1.heap.size,0,none⟩) dn dn) (z1.alloc (.cells ((zerosL dn).map (.int .u8)).toArray 5)):=by rw[hdd];exact run_zeros z1 dn hdl
  have hcv:=run_strReads (zeros_reads (heap_alloc_new z1 (.cells ((zerosL dn).map (.int .u8)).toArray 5)) hdl)
  clear hd0 hdn hdd hdl
  go_wp2_with (with_reducible refine stop_tmp 68 ?_)
  refine Stopped.mk ?_
  refine wpList_tobytes _ rfl 9 22 _ rfl 5 Tryz.underlying9 Tryz.underlying22 Tryz.underlying5 (zerosL dn) rfl (zerosL_bytes dn) (by have:=HDN.out.2;simp[zerosL];omega) ?_
  intro cB z2 hb2 hrB
  rw[show(zerosL dn).length=dn by simp[zerosL]] at hrB⊢
  have BX2:=Lib.hid ((BX1.out.go (Below.all (Below.refl _ _) (.cells ((zerosL dn).map (.int .u8)).toArray 5))).go hb2)
  obtain⟨oB,hoB⟩:∃o,o=some (⟨(z1.alloc (.cells ((zerosL dn).map (.int .u8)).toArray 5)).heap.size,0,none⟩:Addr):=⟨_,rfl⟩
  rw[←hoB] at hrB⊢
  have HRB:=Lib.hid hrB
  clear hoB hrB hb2 hmk hcv c34 c37 c38 BX1
  go_wp2_with fail
  obtain⟨k1,hk1⟩:∃m,(adBytes false S).length=m:=⟨_,rfl⟩
  have hk2:(adBytes false T).length=k1:=by rw[adBytes_len,←hk1,adBytes_len]
  have HK1:Hid (((adBytes false S).length=(adBytes false T).length)∧((adBytes false S).length=4∨(adBytes false S).length=16)):=Lib.hid ⟨by rw[adBytes_len,adBytes_len],by rw[adBytes_len];exact .inl rfl⟩
  have HA1:Hid (∀w',Calls Tryz.prog 45 #[adV false S] w' (NewN w' k1 (adBytes false S))):=Lib.hid fun w'=>(rbytes_any false S w').mono fun _ _ h=>h.n hk1 (adBytes_isb HK.out.S false)
  have HA2:Hid (∀w',Calls Tryz.prog 45 #[adV false T] w' (NewN w' k1 (adBytes false T))):=Lib.hid fun w'=>(rbytes_any false T w').mono fun _ _ h=>h.n hk2 (adBytes_isb HK.out.T false)
  have hlt:w.heap.size+1<z2.heap.size:=BX2.out.lt 0 rfl
  have q2:partOf z2 (w.heap.size+1) 17 17=#[.bool false,.int .u8 (T 0),.int .u8 (T 1),.int .u8 (T 2),.int .u8 (T 3),.int .u8 (T 4),.int .u8 (T 5),.int .u8 (T 6),.int .u8 (T 7),.int .u8 (T 8),.int .u8 (T 9),.int .u8 (T 10),.int .u8 (T 11),.int .u8 (T 12),.int .u8 (T 13),.int .u8 (T 14),.int .u8 (T 15)]:=by rw[partOf_row _ _ _ _ _ _ _ (BX2.out.at 0 rfl)];simp
  clear hk1 hk2
  refine wp_region_sr [.h,.h,.w,.w,.h,.h] [(4,1,0),(5,1,0)] (fun _ w'=>partOf w' (w.heap.size+1) 17 17=#[.bool false,.int .u8 (T 0),.int .u8 (T 1),.int .u8 (T 2),.int .u8 (T 3),.int .u8 (T 4),.int .u8 (T 5),.int .u8 (T 6),.int .u8 (T 7),.int .u8 (T 8),.int .u8 (T 9),.int .u8 (T 10),.int .u8 (T 11),.int .u8 (T 12),.int .u8 (T 13),.int .u8 (T 14),.int .u8 (T 15)]) [1] [(.w,2),(.c,3),(.w,6),(.c,7),(.q,8),(.q,9)] (by kernel_rfl) (by kernel_rfl) (by kernel_rfl) (by kernel_rfl) ?_
  apply Exists.intro
  refine⟨fun wx hbx=>?_,?_,?_⟩
  ·have hxx:=(BX2.out.go hbx).at 0 rfl
   have hbx2:w.heap.size+1<wx.heap.size:=Nat.lt_of_lt_of_le hlt hbx.size
   have p1:partOf wx (w.heap.size+1) 0 17=#[.bool false,.int .u8 (S 0),.int .u8 (S 1),.int .u8 (S 2),.int .u8 (S 3),.int .u8 (S 4),.int .u8 (S 5),.int .u8 (S 6),.int .u8 (S 7),.int .u8 (S 8),.int .u8 (S 9),.int .u8 (S 10),.int .u8 (S 11),.int .u8 (S 12),.int .u8 (S 13),.int .u8 (S 14),.int .u8 (S 15)]:=by rw[partOf_row _ _ _ _ _ _ _ hxx];simp
   have p2:partOf wx (w.heap.size+1) 17 17=#[.bool false,.int .u8 (T 0),.int .u8 (T 1),.int .u8 (T 2),.int .u8 (T 3),.int .u8 (T 4),.int .u8 (T 5),.int .u8 (T 6),.int .u8 (T 7),.int .u8 (T 8),.int .u8 (T 9),.int .u8 (T 10),.int .u8 (T 11),.int .u8 (T 12),.int .u8 (T 13),.int .u8 (T 14),.int .u8 (T 15)]:=by rw[partOf_row _ _ _ _ _ _ _ hxx];simp
   clear hxx hbx
   simp only[headsL]
   repeat go_big_quiet_step (fail)
   exact wpQuiet_nil rfl
  ·intro q hq' oi hoi
   simp only[List.mem_cons,List.not_mem_nil,or_false] at hq'
   rcases hq' with rfl|rfl
   ·cases hoi;exact⟨_,rfl,rfl,fun w2 hw=>by kernel_rfl⟩
   ·cases hoi;exact⟨_,rfl,rfl,fun w2 hw=>by simp[execOp,go_sem,hw]⟩
  simp only[opsAt,List.getElem?_cons_succ,List.getElem?_cons_zero]
  refine⟨fun v fl w2=>∃o1 c1,v=.slice o1 k1 c1∧Reads w2 o1 k1 c1 (adBytes false S)∧Below z2.heap.size z2 w2,?_,?_,?_⟩
  ·refine⟨rfl,fun w' hw'=>.inr ⟨45,#[adV false S],by kernel_rfl,?_⟩⟩
   obtain⟨⟨x,rfl⟩,-⟩:=hw'
   refine(HA1.out x.world).mono ?_
   rintro e w2 ⟨o1,c1,rfl,h1,hb⟩
   exact⟨_,rfl,o1,c1,rfl,h1,Below.via x.below hb⟩
  ·rintro v fl g-w2 ⟨o1,c1,-,-,hb⟩
   exact(partOf_below hb _ 17 17 hlt).trans q2
  rintro v ⟨w30,o1,c1,rfl,-⟩
  refine⟨.string (strOfNums (adBytes false S)),fun w'=>Reads w' o1 k1 c1 (adBytes false S),⟨rfl,fun w' hw=>exec_conv _ _ (by kernel_rfl) (run_strReads hw)⟩,?_,?_⟩
  ·rintro fl w' ⟨o1',c1',he,h1,-⟩
   obtain⟨rfl,rfl⟩:o1=o1'∧c1=c1':=by simpa using he
   exact h1
  refine⟨fun v fl w2=>∃o2 c2,v=.slice o2 k1 c2∧Reads w2 o1 k1 c1 (adBytes false S)∧Reads w2 o2 k1 c2 (adBytes false T)∧Below z2.heap.size z2 w2,?_,?_,?_⟩
  ·refine⟨rfl,fun w' hw'=>.inr ⟨45,#[adV false T],by kernel_rfl,?_⟩⟩
   obtain⟨o1',c1',he,h1,hb1⟩:=hw'
   obtain⟨rfl,rfl⟩:o1=o1'∧c1=c1':=by simpa using he
   refine(HA2.out w').mono ?_
   rintro e w2 ⟨o2,c2,rfl,h2,hb⟩
   exact⟨_,rfl,o2,c2,rfl,h1.below hb,h2,Below.via hb1 hb⟩
  ·intro v fl
   exact kept_ext (kept_top rfl) (fun w2 ⟨_,_,_,h1,_⟩=>h1)
  rintro v ⟨w31,o2,c2,rfl,-⟩
  refine⟨.string (strOfNums (adBytes false T)),fun w'=>Reads w' o2 k1 c2 (adBytes false T),⟨rfl,fun w' hw=>exec_conv _ _ (by kernel_rfl) (run_strReads hw)⟩,?_,?_⟩
  ·rintro fl w' ⟨o2',c2',he,-,h2,-⟩
   obtain⟨rfl,rfl⟩:o2=o2'∧c2=c2':=by simpa using he
   exact h2
  refine⟨.string (strOfNums (adBytes false S)),⟨rfl,fun _=>by kernel_rfl⟩,?_⟩
  refine⟨.string (strOfNums (adBytes false T)),⟨rfl,fun _=>by kernel_rfl⟩,?_⟩
  rintro z3 ⟨o2',c2',-,-,-,hb3⟩
  have BX3:=Lib.hid (BX2.out.go hb3)
  have HRB3:=Lib.hid (HRB.out.below hb3)
  clear hb3 BX2 HRB HA1 HA2 w30 w31 q2 hlt
  have HSB:=Lib.hid (adBytes_isb HK.out.S false)
  have HTB:=Lib.hid (adBytes_isb HK.out.T false)
  have HP:Hid (∀w',Calls Tryz.prog 46 #[.int .u8 p] w' (RetAt w' (.bool true))):=Lib.hid (fun w'=>by have h:=rports_any p w';rw[hip] at h;exact h)
  have hii:isIcmp p=false:=by rcases(by simpa[isPorts] using hip:p=6∨p=17) with rfl|rfl<;>rfl
  have HI:Hid (∀w',Calls Tryz.prog 47 #[.int .u8 p] w' (RetAt w' (.bool false))):=Lib.hid (fun w'=>by have h:=ricmpB_any p w';rw[hii] at h;exact h)
  have c34:z3.cell? ⟨w.heap.size+1,34,none⟩=some (.int .u8 p):=BX3.out.cell 0 34 rfl rfl
  simp only[Act.put,List.setIfInBounds_toArray,List.set_cons_succ,List.set_cons_zero]
  go_wp2_with fail
  refine BX3.out.ret (HP.out _) ?_
  intro z4 hb4 BX4
  have HRB4:=Lib.hid (HRB3.out.below hb4)
  clear hb4 BX3 HRB3 c34 HP
  have hHl:(spHead sp).length≤40:=by rw[sp_head_len];split<;>omega
  have hBl:(spBody sp).length≤2068:=by have:=spBody_len sp;rw[HSP.out] at this⊢;simp only at this;have:=HDN.out;omega
  have hBb:IsBytes (spBody sp):=spBody_byte (by rw[HSP.out];exact HOK.out)
  have hHb:IsBytes (spHead sp):=spHead_byte (by rw[HSP.out];exact HOK.out)
  have HHD:Hid (∀w',Calls Tryz.prog 49 #[.agg #[.int .u8 0,.int .u16 (20+((spBody sp).length:Int)),.int .u16 0,.bool false,.bool false,.int .u16 0,.int .u8 64,.int .u8 p,.string (strOfNums (adBytes false S)),.string (strOfNums (adBytes false T)),.string ⟨#[]⟩]] w' (NewE w' (spHead sp).length (spHead sp) 0)):=Lib.hid (fun w'=>by
   have hx:ipRight ⟨0,20+((spBody sp).length:Int),0,false,false,0,64,p,adBytes false S,adBytes false T,[]⟩=true:=by
    unfold ipRight
    simp
    omega
   have h:=ripputW_any ⟨0,20+((spBody sp).length:Int),0,false,false,0,64,p,adBytes false S,adBytes false T,[]⟩ w' 4 (by decide) ⟨(show(0:Int)≤0∧(0:Int)<256 by decide),⟨by show 0≤20+((spBody sp).length:Int);omega,by show 20+((spBody sp).length:Int)<65536;omega⟩,(show(0:Int)≤0∧(0:Int)<65536 by decide),(show(0:Int)≤0∧(0:Int)<65536 by decide),(show(0:Int)≤64∧(64:Int)<256 by decide),HK.out.p,⟨adBytes_len _ _,HSB.out⟩,⟨adBytes_len _ _,HTB.out⟩,fun v hv=>by cases hv⟩ (by simp)
   unfold ipPutL ipPutErr at h
   rw[hx] at h
   have e:spHead sp=_:=sp_head4 (by rw[HSP.out])
   rw[e]
   rw[HSP.out] at h⊢
   exact h.mono fun _ _ h=>h.n rfl (by have:=hHb;rw[e] at this;rw[HSP.out] at this;exact this))
  have HLG:=Lib.hid (fun h=>sp_long (s:=sp) HG.out (by have:=HNB.out;omega) h)
  have HGD:=Lib.hid (fun h=>sp_good (s:=sp) HG.out (by have:=HNB.out;omega) h)
  have HPX:Hid (∀w',Calls Tryz.prog 48 #[.agg #[.int .u8 p,.int .u16 a,.int .u16 b,.int .u32 0,.int .u32 0,.int .u8 f,.int .u16 0,.int .u16 0,.string ⟨#[]⟩,.int .u8 0,.int .u8 0,.string (strOfNums (zerosL dn))],.string (strOfNums (adBytes false S)),.string (strOfNums (adBytes false T))] w' (BodyPost w' (spBody sp) 0)):=Lib.hid (fun w'=>by
   have e:spBody sp=tPut p a b f (zerosL dn) (adBytes false S) (adBytes false T):=by
    rw[HSP.out];unfold spBody
    simp only[hip,if_true,HDN.out.1,Int.toNat_natCast]
   have hdz:(zerosL dn).length≤2048:=by simp[zerosL];exact HDN.out.2
   rw[e]
   rcases(by simpa[isPorts] using hip:p=6∨p=17) with rfl|rfl
   ·exact rtput_tcp a b f _ _ _ hdz (zerosL_bytes _) HK1.out.1 HK1.out.2 HSB.out HTB.out HK.out.a HK.out.b HF.out w'
   ·have hf0:f=0:=by first|(simpa using hq;done)|(simp at hq2)
    subst hf0
    exact rtput_udp a b _ _ _ hdz (zerosL_bytes _) HK1.out.1 HK1.out.2 HSB.out HTB.out HK.out.a HK.out.b w')
  have HBO:Hid (0≤b∧b<65536):=Lib.hid HK.out.b
  clear hq hip hii
  generalize spBody sp=B at*
  generalize spHead sp=H at*
  obtain⟨nB,hnB⟩:∃n,B.length=n:=⟨_,rfl⟩
  obtain⟨nH,hnH⟩:∃n,H.length=n:=⟨_,rfl⟩
  unfold BodyPost at HPX
  rw[hnB] at HPX HHD hBl
  rw[hnH] at HHD hHl
  have HNN:Hid (B.length=nB∧H.length=nH):=Lib.hid ⟨hnB,hnH⟩
  clear hnB hnH
  generalize strOfNums (adBytes false S)=SS at*
  generalize strOfNums (adBytes false T)=TS at*
  generalize strOfNums (zerosL dn)=DS at*
  have c34:z4.cell? ⟨w.heap.size+1,34,none⟩=some (.int .u8 p):=BX4.out.cell 0 34 rfl rfl
  have c35:z4.cell? ⟨w.heap.size+1,35,none⟩=some (.int .u16 a):=BX4.out.cell 0 35 rfl rfl
  have c36:z4.cell? ⟨w.heap.size+1,36,none⟩=some (.int .u16 b):=BX4.out.cell 0 36 rfl rfl
  have c37:z4.cell? ⟨w.heap.size,37,none⟩=some (.int .u8 f):=BX4.out.cell 1 37 rfl rfl
  have hl0:=BX4.out.lt 1 rfl
  have hl1:=BX4.out.lt 0 rfl
  go_wp2_with fail
  have BX5:=Lib.hid (BX4.out.box #[.int .u8 p,.int .u16 a,.int .u16 b,.int .u32 0,.int .u32 0,.int .u8 f,.int .u16 0,.int .u16 0,.string ⟨#[]⟩,.int .u8 0,.int .u8 0,.string DS] 102)
  clear c34 c35 c36 c37 hl0 hl1 BX4 HRB4
  refine BX5.out.ret (HI.out _) ?_
  intro z5 hb5 BX6
  clear hb5 BX5 HI
  have p12:=BX6.out.part (n:=12) 0 rfl rfl
  have hl5:=BX6.out.lt 0 rfl
  go_wp2_with fail
  refine Calls.mono (HPX.out _) ?_
  rintro e z6 ⟨oX,cX,rfl,hrX,hb6⟩
  have BX7:=Lib.hid (BX6.out.go hb6)
  have HRX:=Lib.hid hrX
  clear hrX hb6 BX6 p12 hl5 HPX
  have c34:z6.cell? ⟨w.heap.size+1,34,none⟩=some (.int .u8 p):=BX7.out.cell 1 34 rfl rfl
  have hw1:IntKind.i64.wrap (20+(nB:Int))=20+(nB:Int):=by rw[IntKind.wrap_i64];omega
  have hw2:IntKind.u16.wrap (20+(nB:Int))=20+(nB:Int):=by rw[IntKind.wrap_u16];omega
  have hw3:IntKind.u16.wrap (nB:Int)=(nB:Int):=by rw[IntKind.wrap_u16];omega
  go_wp2_with fail
  refine Calls.mono (HHD.out _) ?_
  rintro e z7 ⟨oH,cH,rfl,hrH,hb7⟩
  have BX8:=Lib.hid (BX7.out.go hb7)
  have HRX8:=Lib.hid (HRX.out.below hb7)
  have HRH:=Lib.hid hrH
  clear hrH hb7 BX7 HRX c34
  have c0:z7.cell? ⟨w.heap.size+1,0,none⟩=some (.bool false):=BX8.out.cell 1 0 rfl rfl
  obtain⟨nJ,hnJ⟩:∃n,(H++B).length=n:=⟨_,rfl⟩
  have HJ:Hid (∀w' oH cH oX cX,Reads w' oH nH cH H→Reads w' oX nB cX B→Calls Tryz.prog 51 #[.slice oH nH cH,.slice oX nB cX] w' (NewN w' nJ (H++B))):=Lib.hid (fun w' oH cH oX cX h1 h2=>(Bits.join_any oH nH cH H oX nB cX B w' h1 h2 (by omega) (by omega)).mono fun _ _ h=>h.n hnJ (isBytes_app h1.byte h2.byte))
  have HNJ:Hid (nJ=nH+nB):=Lib.hid (by rw[←hnJ,List.length_append,HNN.out.1,HNN.out.2,Nat.add_comm])
  have HNL:=Lib.hid hnJ
  clear hnJ
  go_wp2_with fail
  refine Calls.mono (HJ.out _ _ _ _ _ HRH.out HRX8.out) ?_
  rintro e z8 ⟨oJ,cJ,rfl,hrJ,hb8⟩
  have HB8:=Lib.hid (BX8.out.go hb8).out
  have HRJ:=Lib.hid hrJ
  clear hrJ hb8 BX8 HRH HRX8 c0 HJ hw1 hw2 hw3
  by_cases hlong:2048<nJ
  ·have h4:decide ((2048:Int)<(nJ:Int))=true:=by simpa using(by omega:(2048:Int)<(nJ:Int))
   obtain⟨e1,e2⟩:=HLG.out (by rw[HNL.out];exact hlong)
   have HEE:=Lib.hid (And.intro e1 e2)
   clear e1 e2 hlong
   go_wp2_with fail
   go_ret2
   rw[HEE.out.1,HEE.out.2]
   exact noBody HB8.out
  ·have h4:decide ((2048:Int)<(nJ:Int))=false:=by simpa using(by omega:¬(2048:Int)<(nJ:Int))
   obtain⟨e1,e2⟩:=HGD.out (by rw[HNL.out];exact hlong)
   have HEE:=Lib.hid (And.intro e1 e2)
   clear e1 e2 hlong
   go_wp2_with fail
   go_ret2
   rw[HEE.out.1,HEE.out.2]
   exact⟨oJ,cJ,by rw[HNL.out];rfl,by rw[HNL.out];exact HRJ.out,HB8.out⟩
theorem rput_four_n (S T:Nat→Int)(p a b f d:Int)(ho:SpOk ⟨⟨false,S,false,T,p,a,b⟩,f,d⟩)(hg:spBad ⟨⟨false,S,false,T,p,a,b⟩,f,d⟩=false)(hbig:¬2048<d)(hip:isPorts p=false)(hii:isIcmp p=false)(hq:(f != 0)=false)(w:World):
 Calls Tryz.prog 16 #[.agg (spC false S false T p a b f d)] w (BodyPost w (spL ⟨⟨false,S,false,T,p,a,b⟩,f,d⟩) (spErr ⟨⟨false,S,false,T,p,a,b⟩,f,d⟩)):=by
 have HK:Hid (KyOk ⟨false,S,false,T,p,a,b⟩):=Lib.hid ho.k
 have HF:Hid (0≤f∧f<256):=Lib.hid ho.f
 have HOK:=Lib.hid ho
 obtain⟨hr,hbh,-,h2⟩:=sp_parts hg
 have HR:Hid (∀w,Calls Tryz.prog 27 #[.agg (kyC false S false T p a b)] w (RetAt w (.bool true))):=Lib.hid fun w=>by have h:=rkright_any false S false T p a b w;rw[hr] at h;exact h
 obtain⟨sp,hsp⟩:∃sp:Sp,sp=⟨⟨false,S,false,T,p,a,b⟩,f,d⟩:=⟨_,rfl⟩
 rw[←hsp]
 have HSP:=Lib.hid hsp
 have hd0:=ho.n
 have hdn:¬d<0:=of_decide_eq_false h2
 have h3:decide (2048<d)=false:=decide_eq_false hbig
 have HG:Hid (spBad sp=false):=Lib.hid (by rw[hsp];exact hg)
 have HNB:Hid (¬2048<sp.n):=Lib.hid (by rw[hsp];exact hbig)
 have HBIG:=Lib.hid hbig
 clear hr ho hsp hg hbig
 clear hbh
 have hbx:=((Bx.start w).box (spC false S false T p a b f d) 52).box (kyC false S false T p a b) 38
 rw[show(w.alloc (.cells (spC false S false T p a b f d) 52)).heap.size=w.heap.size+1 by simp] at hbx
 have BX0:=Lib.hid hbx
 clear hbx
 unfold spC kyC at*
 go_enter Tryz.func16,Tryz.ntmps16
 go_wp2_with fail
 refine BX0.out.ret (HR.out _) ?_
 intro z1 hb1 BX1
 clear hb1 BX0
 have c37:z1.cell? ⟨w.heap.size,37,none⟩=some (.int .u8 f):=BX1.out.cell 1 37 rfl rfl
 have c38:z1.cell? ⟨w.heap.size,38,none⟩=some (.int .i64 d):=BX1.out.cell 1 38 rfl rfl
 have c34:z1.cell? ⟨w.heap.size+1,34,none⟩=some (.int .u8 p):=BX1.out.cell 0 34 rfl rfl
 obtain⟨dn,hdd⟩:=Int.eq_ofNat_of_zero_le (show 0≤d by omega)
 have hdl:dn≤2048:=by have:=HBIG.out;omega
 have HDN:=Lib.hid (And.intro hdd hdl)
 have hmk:(Instr.makeSlice 22 (.int .i64 d) (.int .i64 d)).run Tryz.prog z1=.ok (.slice (some ⟨z1.heap.size,0,none⟩) dn dn) (z1.alloc (.cells ((zerosL dn).map (.int .u8)).toArray 5)):=by rw[hdd];exact run_zeros z1 dn hdl
 have hcv:=run_strReads (zeros_reads (heap_alloc_new z1 (.cells ((zerosL dn).map (.int .u8)).toArray 5)) hdl)
 clear hd0 hdn hdd hdl
 go_wp2_with (with_reducible refine stop_tmp 68 ?_)
 refine Stopped.mk ?_
 refine wpList_tobytes _ rfl 9 22 _ rfl 5 Tryz.underlying9 Tryz.underlying22 Tryz.underlying5 (zerosL dn) rfl (zerosL_bytes dn) (by have:=HDN.out.2;simp[zerosL];omega) ?_
 intro cB z2 hb2 hrB
 rw[show(zerosL dn).length=dn by simp[zerosL]] at hrB⊢
 have BX2:=Lib.hid ((BX1.out.go (Below.all (Below.refl _ _) (.cells ((zerosL dn).map (.int .u8)).toArray 5))).go hb2)
 obtain⟨oB,hoB⟩:∃o,o=some (⟨(z1.alloc (.cells ((zerosL dn).map (.int .u8)).toArray 5)).heap.size,0,none⟩:Addr):=⟨_,rfl⟩
 rw[←hoB] at hrB⊢
 have HRB:=Lib.hid hrB
 clear hoB hrB hb2 hmk hcv c34 c37 c38 BX1
 go_wp2_with fail
 obtain⟨k1,hk1⟩:∃m,(adBytes false S).length=m:=⟨_,rfl⟩
 have hk2:(adBytes false T).length=k1:=by rw[adBytes_len,←hk1,adBytes_len]
 have HK1:Hid (((adBytes false S).length=(adBytes false T).length)∧((adBytes false S).length=4∨(adBytes false S).length=16)):=Lib.hid ⟨by rw[adBytes_len,adBytes_len],by rw[adBytes_len];exact .inl rfl⟩
 have HA1:Hid (∀w',Calls Tryz.prog 45 #[adV false S] w' (NewN w' k1 (adBytes false S))):=Lib.hid fun w'=>(rbytes_any false S w').mono fun _ _ h=>h.n hk1 (adBytes_isb HK.out.S false)
 have HA2:Hid (∀w',Calls Tryz.prog 45 #[adV false T] w' (NewN w' k1 (adBytes false T))):=Lib.hid fun w'=>(rbytes_any false T w').mono fun _ _ h=>h.n hk2 (adBytes_isb HK.out.T false)
 have hlt:w.heap.size+1<z2.heap.size:=BX2.out.lt 0 rfl
 have q2:partOf z2 (w.heap.size+1) 17 17=#[.bool false,.int .u8 (T 0),.int .u8 (T 1),.int .u8 (T 2),.int .u8 (T 3),.int .u8 (T 4),.int .u8 (T 5),.int .u8 (T 6),.int .u8 (T 7),.int .u8 (T 8),.int .u8 (T 9),.int .u8 (T 10),.int .u8 (T 11),.int .u8 (T 12),.int .u8 (T 13),.int .u8 (T 14),.int .u8 (T 15)]:=by rw[partOf_row _ _ _ _ _ _ _ (BX2.out.at 0 rfl)];simp
 clear hk1 hk2
 refine wp_region_sr [.h,.h,.w,.w,.h,.h] [(4,1,0),(5,1,0)] (fun _ w'=>partOf w' (w.heap.size+1) 17 17=#[.bool false,.int .u8 (T 0),.int .u8 (T 1),.int .u8 (T 2),.int .u8 (T 3),.int .u8 (T 4),.int .u8 (T 5),.int .u8 (T 6),.int .u8 (T 7),.int .u8 (T 8),.int .u8 (T 9),.int .u8 (T 10),.int .u8 (T 11),.int .u8 (T 12),.int .u8 (T 13),.int .u8 (T 14),.int .u8 (T 15)]) [1] [(.w,2),(.c,3),(.w,6),(.c,7),(.q,8),(.q,9)] (by kernel_rfl) (by kernel_rfl) (by kernel_rfl) (by kernel_rfl) ?_
 apply Exists.intro
 refine⟨fun wx hbx=>?_,?_,?_⟩
 ·have hxx:=(BX2.out.go hbx).at 0 rfl
  have hbx2:w.heap.size+1<wx.heap.size:=Nat.lt_of_lt_of_le hlt hbx.size
  have p1:partOf wx (w.heap.size+1) 0 17=#[.bool false,.int .u8 (S 0),.int .u8 (S 1),.int .u8 (S 2),.int .u8 (S 3),.int .u8 (S 4),.int .u8 (S 5),.int .u8 (S 6),.int .u8 (S 7),.int .u8 (S 8),.int .u8 (S 9),.int .u8 (S 10),.int .u8 (S 11),.int .u8 (S 12),.int .u8 (S 13),.int .u8 (S 14),.int .u8 (S 15)]:=by rw[partOf_row _ _ _ _ _ _ _ hxx];simp
  have p2:partOf wx (w.heap.size+1) 17 17=#[.bool false,.int .u8 (T 0),.int .u8 (T 1),.int .u8 (T 2),.int .u8 (T 3),.int .u8 (T 4),.int .u8 (T 5),.int .u8 (T 6),.int .u8 (T 7),.int .u8 (T 8),.int .u8 (T 9),.int .u8 (T 10),.int .u8 (T 11),.int .u8 (T 12),.int .u8 (T 13),.int .u8 (T 14),.int .u8 (T 15)]:=by rw[partOf_row _ _ _ _ _ _ _ hxx];simp
  clear hxx hbx
  simp only[headsL]
  repeat go_big_quiet_step (fail)
  exact wpQuiet_nil rfl
 ·intro q hq' oi hoi
  simp only[List.mem_cons,List.not_mem_nil,or_false] at hq'
  rcases hq' with rfl|rfl
  ·cases hoi;exact⟨_,rfl,rfl,fun w2 hw=>by kernel_rfl⟩
  ·cases hoi;exact⟨_,rfl,rfl,fun w2 hw=>by simp[execOp,go_sem,hw]⟩
 simp only[opsAt,List.getElem?_cons_succ,List.getElem?_cons_zero]
 refine⟨fun v fl w2=>∃o1 c1,v=.slice o1 k1 c1∧Reads w2 o1 k1 c1 (adBytes false S)∧Below z2.heap.size z2 w2,?_,?_,?_⟩
 ·refine⟨rfl,fun w' hw'=>.inr ⟨45,#[adV false S],by kernel_rfl,?_⟩⟩
  obtain⟨⟨x,rfl⟩,-⟩:=hw'
  refine(HA1.out x.world).mono ?_
  rintro e w2 ⟨o1,c1,rfl,h1,hb⟩
  exact⟨_,rfl,o1,c1,rfl,h1,Below.via x.below hb⟩
 ·rintro v fl g-w2 ⟨o1,c1,-,-,hb⟩
  exact(partOf_below hb _ 17 17 hlt).trans q2
 rintro v ⟨w30,o1,c1,rfl,-⟩
 refine⟨.string (strOfNums (adBytes false S)),fun w'=>Reads w' o1 k1 c1 (adBytes false S),⟨rfl,fun w' hw=>exec_conv _ _ (by kernel_rfl) (run_strReads hw)⟩,?_,?_⟩
 ·rintro fl w' ⟨o1',c1',he,h1,-⟩
  obtain⟨rfl,rfl⟩:o1=o1'∧c1=c1':=by simpa using he
  exact h1
 refine⟨fun v fl w2=>∃o2 c2,v=.slice o2 k1 c2∧Reads w2 o1 k1 c1 (adBytes false S)∧Reads w2 o2 k1 c2 (adBytes false T)∧Below z2.heap.size z2 w2,?_,?_,?_⟩
 ·refine⟨rfl,fun w' hw'=>.inr ⟨45,#[adV false T],by kernel_rfl,?_⟩⟩
  obtain⟨o1',c1',he,h1,hb1⟩:=hw'
  obtain⟨rfl,rfl⟩:o1=o1'∧c1=c1':=by simpa using he
  refine(HA2.out w').mono ?_
  rintro e w2 ⟨o2,c2,rfl,h2,hb⟩
  exact⟨_,rfl,o2,c2,rfl,h1.below hb,h2,Below.via hb1 hb⟩
 ·intro v fl
  exact kept_ext (kept_top rfl) (fun w2 ⟨_,_,_,h1,_⟩=>h1)
 rintro v ⟨w31,o2,c2,rfl,-⟩
 refine⟨.string (strOfNums (adBytes false T)),fun w'=>Reads w' o2 k1 c2 (adBytes false T),⟨rfl,fun w' hw=>exec_conv _ _ (by kernel_rfl) (run_strReads hw)⟩,?_,?_⟩
 ·rintro fl w' ⟨o2',c2',he,-,h2,-⟩
  obtain⟨rfl,rfl⟩:o2=o2'∧c2=c2':=by simpa using he
  exact h2
 refine⟨.string (strOfNums (adBytes false S)),⟨rfl,fun _=>by kernel_rfl⟩,?_⟩
 refine⟨.string (strOfNums (adBytes false T)),⟨rfl,fun _=>by kernel_rfl⟩,?_⟩
 rintro z3 ⟨o2',c2',-,-,-,hb3⟩
 have BX3:=Lib.hid (BX2.out.go hb3)
 have HRB3:=Lib.hid (HRB.out.below hb3)
 clear hb3 BX2 HRB HA1 HA2 w30 w31 q2 hlt
 have HSB:=Lib.hid (adBytes_isb HK.out.S false)
 have HTB:=Lib.hid (adBytes_isb HK.out.T false)
 have HP:Hid (∀w',Calls Tryz.prog 46 #[.int .u8 p] w' (RetAt w' (.bool false))):=Lib.hid (fun w'=>by have h:=rports_any p w';rw[hip] at h;exact h)
 have HI:Hid (∀w',Calls Tryz.prog 47 #[.int .u8 p] w' (RetAt w' (.bool false))):=Lib.hid (fun w'=>by have h:=ricmpB_any p w';rw[hii] at h;exact h)
 have c34:z3.cell? ⟨w.heap.size+1,34,none⟩=some (.int .u8 p):=BX3.out.cell 0 34 rfl rfl
 simp only[Act.put,List.setIfInBounds_toArray,List.set_cons_succ,List.set_cons_zero]
 go_wp2_with fail
 refine BX3.out.ret (HP.out _) ?_
 intro z4 hb4 BX4
 have HRB4:=Lib.hid (HRB3.out.below hb4)
 clear hb4 BX3 HRB3 c34 HP
 have hHl:(spHead sp).length≤40:=by rw[sp_head_len];split<;>omega
 have hBl:(spBody sp).length≤2068:=by have:=spBody_len sp;rw[HSP.out] at this⊢;simp only at this;have:=HDN.out;omega
 have hBb:IsBytes (spBody sp):=spBody_byte (by rw[HSP.out];exact HOK.out)
 have hHb:IsBytes (spHead sp):=spHead_byte (by rw[HSP.out];exact HOK.out)
 have HHD:Hid (∀w',Calls Tryz.prog 49 #[.agg #[.int .u8 0,.int .u16 (20+((spBody sp).length:Int)),.int .u16 0,.bool false,.bool false,.int .u16 0,.int .u8 64,.int .u8 p,.string (strOfNums (adBytes false S)),.string (strOfNums (adBytes false T)),.string ⟨#[]⟩]] w' (NewE w' (spHead sp).length (spHead sp) 0)):=Lib.hid (fun w'=>by
  have hx:ipRight ⟨0,20+((spBody sp).length:Int),0,false,false,0,64,p,adBytes false S,adBytes false T,[]⟩=true:=by
   unfold ipRight
   simp
   omega
  have h:=ripputW_any ⟨0,20+((spBody sp).length:Int),0,false,false,0,64,p,adBytes false S,adBytes false T,[]⟩ w' 4 (by decide) ⟨(show(0:Int)≤0∧(0:Int)<256 by decide),⟨by show 0≤20+((spBody sp).length:Int);omega,by show 20+((spBody sp).length:Int)<65536;omega⟩,(show(0:Int)≤0∧(0:Int)<65536 by decide),(show(0:Int)≤0∧(0:Int)<65536 by decide),(show(0:Int)≤64∧(64:Int)<256 by decide),HK.out.p,⟨adBytes_len _ _,HSB.out⟩,⟨adBytes_len _ _,HTB.out⟩,fun v hv=>by cases hv⟩ (by simp)
  unfold ipPutL ipPutErr at h
  rw[hx] at h
  have e:spHead sp=_:=sp_head4 (by rw[HSP.out])
  rw[e]
  rw[HSP.out] at h⊢
  exact h.mono fun _ _ h=>h.n rfl (by have:=hHb;rw[e] at this;rw[HSP.out] at this;exact this))
 have HLG:=Lib.hid (fun h=>sp_long (s:=sp) HG.out (by have:=HNB.out;omega) h)
 have HGD:=Lib.hid (fun h=>sp_good (s:=sp) HG.out (by have:=HNB.out;omega) h)
 have HBZ:Hid (spBody sp=zerosL dn):=Lib.hid (by
  rw[HSP.out];unfold spBody
  simp only[hip,hii,Bool.false_eq_true,if_false,HDN.out.1,Int.toNat_natCast])
 have HBO:Hid (0≤b∧b<65536):=Lib.hid HK.out.b
 clear hq hip hii
 generalize spBody sp=B at*
 generalize spHead sp=H at*
 obtain⟨nB,hnB⟩:∃n,B.length=n:=⟨_,rfl⟩
 obtain⟨nH,hnH⟩:∃n,H.length=n:=⟨_,rfl⟩
 rw[hnB] at HHD hBl
 rw[hnH] at HHD hHl
 have HNN:Hid (B.length=nB∧H.length=nH):=Lib.hid ⟨hnB,hnH⟩
 clear hnB hnH
 generalize strOfNums (adBytes false S)=SS at*
 generalize strOfNums (adBytes false T)=TS at*
 generalize strOfNums (zerosL dn)=DS at*
 have c34:z4.cell? ⟨w.heap.size+1,34,none⟩=some (.int .u8 p):=BX4.out.cell 0 34 rfl rfl
 go_wp2_with fail
 refine BX4.out.ret (HI.out _) ?_
 intro z5 hb5 BX5
 have HRB5:=Lib.hid (HRB4.out.below hb5)
 clear hb5 BX4 HRB4 c34
 have hB:=HBZ.out
 subst hB
 obtain rfl:nB=dn:=by rw[←HNN.out.1];simp[zerosL]
 have HRX:=Lib.hid HRB5.out
 clear HRB5
 obtain⟨z6,hz6⟩:∃z,z=z5:=⟨_,rfl⟩
 subst hz6
 have BX7:=Lib.hid BX5.out
 clear BX5
 generalize hBg:zerosL nB=B at*
 have c34:z6.cell? ⟨w.heap.size+1,34,none⟩=some (.int .u8 p):=BX7.out.cell 0 34 rfl rfl
 have hw1:IntKind.i64.wrap (20+(nB:Int))=20+(nB:Int):=by rw[IntKind.wrap_i64];omega
 have hw2:IntKind.u16.wrap (20+(nB:Int))=20+(nB:Int):=by rw[IntKind.wrap_u16];omega
 have hw3:IntKind.u16.wrap (nB:Int)=(nB:Int):=by rw[IntKind.wrap_u16];omega
 go_wp2_with fail
 refine Calls.mono (HHD.out _) ?_
 rintro e z7 ⟨oH,cH,rfl,hrH,hb7⟩
 have BX8:=Lib.hid (BX7.out.go hb7)
 have HRX8:=Lib.hid (HRX.out.below hb7)
 have HRH:=Lib.hid hrH
 clear hrH hb7 BX7 HRX c34
 have c0:z7.cell? ⟨w.heap.size+1,0,none⟩=some (.bool false):=BX8.out.cell 0 0 rfl rfl
 obtain⟨nJ,hnJ⟩:∃n,(H++B).length=n:=⟨_,rfl⟩
 have HJ:Hid (∀w' oH cH oX cX,Reads w' oH nH cH H→Reads w' oX nB cX B→Calls Tryz.prog 51 #[.slice oH nH cH,.slice oX nB cX] w' (NewN w' nJ (H++B))):=Lib.hid (fun w' oH cH oX cX h1 h2=>(Bits.join_any oH nH cH H oX nB cX B w' h1 h2 (by omega) (by omega)).mono fun _ _ h=>h.n hnJ (isBytes_app h1.byte h2.byte))
 have HNJ:Hid (nJ=nH+nB):=Lib.hid (by rw[←hnJ,List.length_append,HNN.out.1,HNN.out.2,Nat.add_comm])
 have HNL:=Lib.hid hnJ
 clear hnJ
 go_wp2_with fail
 refine Calls.mono (HJ.out _ _ _ _ _ HRH.out HRX8.out) ?_
 rintro e z8 ⟨oJ,cJ,rfl,hrJ,hb8⟩
 have HB8:=Lib.hid (BX8.out.go hb8).out
 have HRJ:=Lib.hid hrJ
 clear hrJ hb8 BX8 HRH HRX8 c0 HJ hw1 hw2 hw3
 by_cases hlong:2048<nJ
 ·have h4:decide ((2048:Int)<(nJ:Int))=true:=by simpa using(by omega:(2048:Int)<(nJ:Int))
  obtain⟨e1,e2⟩:=HLG.out (by rw[HNL.out];exact hlong)
  have HEE:=Lib.hid (And.intro e1 e2)
  clear e1 e2 hlong
  go_wp2_with fail
  go_ret2
  rw[HEE.out.1,HEE.out.2]
  exact noBody HB8.out
 ·have h4:decide ((2048:Int)<(nJ:Int))=false:=by simpa using(by omega:¬(2048:Int)<(nJ:Int))
  obtain⟨e1,e2⟩:=HGD.out (by rw[HNL.out];exact hlong)
  have HEE:=Lib.hid (And.intro e1 e2)
  clear e1 e2 hlong
  go_wp2_with fail
  go_ret2
  rw[HEE.out.1,HEE.out.2]
  exact⟨oJ,cJ,by rw[HNL.out];rfl,by rw[HNL.out];exact HRJ.out,HB8.out⟩
theorem rput_four_i (S T:Nat→Int)(p a b f d:Int)(ho:SpOk ⟨⟨false,S,false,T,p,a,b⟩,f,d⟩)(hg:spBad ⟨⟨false,S,false,T,p,a,b⟩,f,d⟩=false)(hbig:¬2048<d)(hip:isPorts p=false)(hii:isIcmp p=true)(hq:(f != 0)=false)(w:World):
 Calls Tryz.prog 16 #[.agg (spC false S false T p a b f d)] w (BodyPost w (spL ⟨⟨false,S,false,T,p,a,b⟩,f,d⟩) (spErr ⟨⟨false,S,false,T,p,a,b⟩,f,d⟩)):=by
 have HK:Hid (KyOk ⟨false,S,false,T,p,a,b⟩):=Lib.hid ho.k
 have HF:Hid (0≤f∧f<256):=Lib.hid ho.f
 have HOK:=Lib.hid ho
 obtain⟨hr,hbh,-,h2⟩:=sp_parts hg
 have HR:Hid (∀w,Calls Tryz.prog 27 #[.agg (kyC false S false T p a b)] w (RetAt w (.bool true))):=Lib.hid fun w=>by have h:=rkright_any false S false T p a b w;rw[hr] at h;exact h
 obtain⟨sp,hsp⟩:∃sp:Sp,sp=⟨⟨false,S,false,T,p,a,b⟩,f,d⟩:=⟨_,rfl⟩
 rw[←hsp]
 have HSP:=Lib.hid hsp
 have hd0:=ho.n
 have hdn:¬d<0:=of_decide_eq_false h2
 have h3:decide (2048<d)=false:=decide_eq_false hbig
 have HG:Hid (spBad sp=false):=Lib.hid (by rw[hsp];exact hg)
 have HNB:Hid (¬2048<sp.n):=Lib.hid (by rw[hsp];exact hbig)
 have HBIG:=Lib.hid hbig
 clear hr ho hsp hg hbig
 clear hbh
 have hbx:=((Bx.start w).box (spC false S false T p a b f d) 52).box (kyC false S false T p a b) 38
 rw[show(w.alloc (.cells (spC false S false T p a b f d) 52)).heap.size=w.heap.size+1 by simp] at hbx
 have BX0:=Lib.hid hbx
 clear hbx
 unfold spC kyC at*
 go_enter Tryz.func16,Tryz.ntmps16
 go_wp2_with fail
 refine BX0.out.ret (HR.out _) ?_
 intro z1 hb1 BX1
 clear hb1 BX0
 have c37:z1.cell? ⟨w.heap.size,37,none⟩=some (.int .u8 f):=BX1.out.cell 1 37 rfl rfl
 have c38:z1.cell? ⟨w.heap.size,38,none⟩=some (.int .i64 d):=BX1.out.cell 1 38 rfl rfl
 have c34:z1.cell? ⟨w.heap.size+1,34,none⟩=some (.int .u8 p):=BX1.out.cell 0 34 rfl rfl
 obtain⟨dn,hdd⟩:=Int.eq_ofNat_of_zero_le (show 0≤d by omega)
 have hdl:dn≤2048:=by have:=HBIG.out;omega
 have HDN:=Lib.hid (And.intro hdd hdl)
 have hmk:(Instr.makeSlice 22 (.int .i64 d) (.int .i64 d)).run Tryz.prog z1=.ok (.slice (some ⟨z1.heap.size,0,none⟩) dn dn) (z1.alloc (.cells ((zerosL dn).map (.int .u8)).toArray 5)):=by rw[hdd];exact run_zeros z1 dn hdl
 have hcv:=run_strReads (zeros_reads (heap_alloc_new z1 (.cells ((zerosL dn).map (.int .u8)).toArray 5)) hdl)
 clear hd0 hdn hdd hdl
 go_wp2_with (with_reducible refine stop_tmp 68 ?_)
 refine Stopped.mk ?_
 refine wpList_tobytes _ rfl 9 22 _ rfl 5 Tryz.underlying9 Tryz.underlying22 Tryz.underlying5 (zerosL dn) rfl (zerosL_bytes dn) (by have:=HDN.out.2;simp[zerosL];omega) ?_
 intro cB z2 hb2 hrB
 rw[show(zerosL dn).length=dn by simp[zerosL]] at hrB⊢
 have BX2:=Lib.hid ((BX1.out.go (Below.all (Below.refl _ _) (.cells ((zerosL dn).map (.int .u8)).toArray 5))).go hb2)
 obtain⟨oB,hoB⟩:∃o,o=some (⟨(z1.alloc (.cells ((zerosL dn).map (.int .u8)).toArray 5)).heap.size,0,none⟩:Addr):=⟨_,rfl⟩
 rw[←hoB] at hrB⊢
 have HRB:=Lib.hid hrB
 clear hoB hrB hb2 hmk hcv c34 c37 c38 BX1
 go_wp2_with fail
 obtain⟨k1,hk1⟩:∃m,(adBytes false S).length=m:=⟨_,rfl⟩
 have hk2:(adBytes false T).length=k1:=by rw[adBytes_len,←hk1,adBytes_len]
 have HK1:Hid (((adBytes false S).length=(adBytes false T).length)∧((adBytes false S).length=4∨(adBytes false S).length=16)):=Lib.hid ⟨by rw[adBytes_len,adBytes_len],by rw[adBytes_len];exact .inl rfl⟩
 have HA1:Hid (∀w',Calls Tryz.prog 45 #[adV false S] w' (NewN w' k1 (adBytes false S))):=Lib.hid fun w'=>(rbytes_any false S w').mono fun _ _ h=>h.n hk1 (adBytes_isb HK.out.S false)
 have HA2:Hid (∀w',Calls Tryz.prog 45 #[adV false T] w' (NewN w' k1 (adBytes false T))):=Lib.hid fun w'=>(rbytes_any false T w').mono fun _ _ h=>h.n hk2 (adBytes_isb HK.out.T false)
 have hlt:w.heap.size+1<z2.heap.size:=BX2.out.lt 0 rfl
 have q2:partOf z2 (w.heap.size+1) 17 17=#[.bool false,.int .u8 (T 0),.int .u8 (T 1),.int .u8 (T 2),.int .u8 (T 3),.int .u8 (T 4),.int .u8 (T 5),.int .u8 (T 6),.int .u8 (T 7),.int .u8 (T 8),.int .u8 (T 9),.int .u8 (T 10),.int .u8 (T 11),.int .u8 (T 12),.int .u8 (T 13),.int .u8 (T 14),.int .u8 (T 15)]:=by rw[partOf_row _ _ _ _ _ _ _ (BX2.out.at 0 rfl)];simp
 clear hk1 hk2
 refine wp_region_sr [.h,.h,.w,.w,.h,.h] [(4,1,0),(5,1,0)] (fun _ w'=>partOf w' (w.heap.size+1) 17 17=#[.bool false,.int .u8 (T 0),.int .u8 (T 1),.int .u8 (T 2),.int .u8 (T 3),.int .u8 (T 4),.int .u8 (T 5),.int .u8 (T 6),.int .u8 (T 7),.int .u8 (T 8),.int .u8 (T 9),.int .u8 (T 10),.int .u8 (T 11),.int .u8 (T 12),.int .u8 (T 13),.int .u8 (T 14),.int .u8 (T 15)]) [1] [(.w,2),(.c,3),(.w,6),(.c,7),(.q,8),(.q,9)] (by kernel_rfl) (by kernel_rfl) (by kernel_rfl) (by kernel_rfl) ?_
 apply Exists.intro
 refine⟨fun wx hbx=>?_,?_,?_⟩
 ·have hxx:=(BX2.out.go hbx).at 0 rfl
  have hbx2:w.heap.size+1<wx.heap.size:=Nat.lt_of_lt_of_le hlt hbx.size
  have p1:partOf wx (w.heap.size+1) 0 17=#[.bool false,.int .u8 (S 0),.int .u8 (S 1),.int .u8 (S 2),.int .u8 (S 3),.int .u8 (S 4),.int .u8 (S 5),.int .u8 (S 6),.int .u8 (S 7),.int .u8 (S 8),.int .u8 (S 9),.int .u8 (S 10),.int .u8 (S 11),.int .u8 (S 12),.int .u8 (S 13),.int .u8 (S 14),.int .u8 (S 15)]:=by rw[partOf_row _ _ _ _ _ _ _ hxx];simp
  have p2:partOf wx (w.heap.size+1) 17 17=#[.bool false,.int .u8 (T 0),.int .u8 (T 1),.int .u8 (T 2),.int .u8 (T 3),.int .u8 (T 4),.int .u8 (T 5),.int .u8 (T 6),.int .u8 (T 7),.int .u8 (T 8),.int .u8 (T 9),.int .u8 (T 10),.int .u8 (T 11),.int .u8 (T 12),.int .u8 (T 13),.int .u8 (T 14),.int .u8 (T 15)]:=by rw[partOf_row _ _ _ _ _ _ _ hxx];simp
  clear hxx hbx
  simp only[headsL]
  repeat go_big_quiet_step (fail)
  exact wpQuiet_nil rfl
 ·intro q hq' oi hoi
  simp only[List.mem_cons,List.not_mem_nil,or_false] at hq'
  rcases hq' with rfl|rfl
  ·cases hoi;exact⟨_,rfl,rfl,fun w2 hw=>by kernel_rfl⟩
  ·cases hoi;exact⟨_,rfl,rfl,fun w2 hw=>by simp[execOp,go_sem,hw]⟩
 simp only[opsAt,List.getElem?_cons_succ,List.getElem?_cons_zero]
 refine⟨fun v fl w2=>∃o1 c1,v=.slice o1 k1 c1∧Reads w2 o1 k1 c1 (adBytes false S)∧Below z2.heap.size z2 w2,?_,?_,?_⟩
 ·refine⟨rfl,fun w' hw'=>.inr ⟨45,#[adV false S],by kernel_rfl,?_⟩⟩
  obtain⟨⟨x,rfl⟩,-⟩:=hw'
  refine(HA1.out x.world).mono ?_
  rintro e w2 ⟨o1,c1,rfl,h1,hb⟩
  exact⟨_,rfl,o1,c1,rfl,h1,Below.via x.below hb⟩
 ·rintro v fl g-w2 ⟨o1,c1,-,-,hb⟩
  exact(partOf_below hb _ 17 17 hlt).trans q2
 rintro v ⟨w30,o1,c1,rfl,-⟩
 refine⟨.string (strOfNums (adBytes false S)),fun w'=>Reads w' o1 k1 c1 (adBytes false S),⟨rfl,fun w' hw=>exec_conv _ _ (by kernel_rfl) (run_strReads hw)⟩,?_,?_⟩
 ·rintro fl w' ⟨o1',c1',he,h1,-⟩
  obtain⟨rfl,rfl⟩:o1=o1'∧c1=c1':=by simpa using he
  exact h1
 refine⟨fun v fl w2=>∃o2 c2,v=.slice o2 k1 c2∧Reads w2 o1 k1 c1 (adBytes false S)∧Reads w2 o2 k1 c2 (adBytes false T)∧Below z2.heap.size z2 w2,?_,?_,?_⟩
 ·refine⟨rfl,fun w' hw'=>.inr ⟨45,#[adV false T],by kernel_rfl,?_⟩⟩
  obtain⟨o1',c1',he,h1,hb1⟩:=hw'
  obtain⟨rfl,rfl⟩:o1=o1'∧c1=c1':=by simpa using he
  refine(HA2.out w').mono ?_
  rintro e w2 ⟨o2,c2,rfl,h2,hb⟩
  exact⟨_,rfl,o2,c2,rfl,h1.below hb,h2,Below.via hb1 hb⟩
 ·intro v fl
  exact kept_ext (kept_top rfl) (fun w2 ⟨_,_,_,h1,_⟩=>h1)
 rintro v ⟨w31,o2,c2,rfl,-⟩
 refine⟨.string (strOfNums (adBytes false T)),fun w'=>Reads w' o2 k1 c2 (adBytes false T),⟨rfl,fun w' hw=>exec_conv _ _ (by kernel_rfl) (run_strReads hw)⟩,?_,?_⟩
 ·rintro fl w' ⟨o2',c2',he,-,h2,-⟩
  obtain⟨rfl,rfl⟩:o2=o2'∧c2=c2':=by simpa using he
  exact h2
 refine⟨.string (strOfNums (adBytes false S)),⟨rfl,fun _=>by kernel_rfl⟩,?_⟩
 refine⟨.string (strOfNums (adBytes false T)),⟨rfl,fun _=>by kernel_rfl⟩,?_⟩
 rintro z3 ⟨o2',c2',-,-,-,hb3⟩
 have BX3:=Lib.hid (BX2.out.go hb3)
 have HRB3:=Lib.hid (HRB.out.below hb3)
 clear hb3 BX2 HRB HA1 HA2 w30 w31 q2 hlt
 have HSB:=Lib.hid (adBytes_isb HK.out.S false)
 have HTB:=Lib.hid (adBytes_isb HK.out.T false)
 have HP:Hid (∀w',Calls Tryz.prog 46 #[.int .u8 p] w' (RetAt w' (.bool false))):=Lib.hid (fun w'=>by have h:=rports_any p w';rw[hip] at h;exact h)
 have HI:Hid (∀w',Calls Tryz.prog 47 #[.int .u8 p] w' (RetAt w' (.bool true))):=Lib.hid (fun w'=>by have h:=ricmpB_any p w';rw[hii] at h;exact h)
 have c34:z3.cell? ⟨w.heap.size+1,34,none⟩=some (.int .u8 p):=BX3.out.cell 0 34 rfl rfl
 simp only[Act.put,List.setIfInBounds_toArray,List.set_cons_succ,List.set_cons_zero]
 go_wp2_with fail
 refine BX3.out.ret (HP.out _) ?_
 intro z4 hb4 BX4
 have HRB4:=Lib.hid (HRB3.out.below hb4)
 clear hb4 BX3 HRB3 c34 HP
 have hHl:(spHead sp).length≤40:=by rw[sp_head_len];split<;>omega
 have hBl:(spBody sp).length≤2068:=by have:=spBody_len sp;rw[HSP.out] at this⊢;simp only at this;have:=HDN.out;omega
 have hBb:IsBytes (spBody sp):=spBody_byte (by rw[HSP.out];exact HOK.out)
 have hHb:IsBytes (spHead sp):=spHead_byte (by rw[HSP.out];exact HOK.out)
 have HHD:Hid (∀w',Calls Tryz.prog 49 #[.agg #[.int .u8 0,.int .u16 (20+((spBody sp).length:Int)),.int .u16 0,.bool false,.bool false,.int .u16 0,.int .u8 64,.int .u8 p,.string (strOfNums (adBytes false S)),.string (strOfNums (adBytes false T)),.string ⟨#[]⟩]] w' (NewE w' (spHead sp).length (spHead sp) 0)):=Lib.hid (fun w'=>by
  have hx:ipRight ⟨0,20+((spBody sp).length:Int),0,false,false,0,64,p,adBytes false S,adBytes false T,[]⟩=true:=by
   unfold ipRight
   simp
   omega
  have h:=ripputW_any ⟨0,20+((spBody sp).length:Int),0,false,false,0,64,p,adBytes false S,adBytes false T,[]⟩ w' 4 (by decide) ⟨(show(0:Int)≤0∧(0:Int)<256 by decide),⟨by show 0≤20+((spBody sp).length:Int);omega,by show 20+((spBody sp).length:Int)<65536;omega⟩,(show(0:Int)≤0∧(0:Int)<65536 by decide),(show(0:Int)≤0∧(0:Int)<65536 by decide),(show(0:Int)≤64∧(64:Int)<256 by decide),HK.out.p,⟨adBytes_len _ _,HSB.out⟩,⟨adBytes_len _ _,HTB.out⟩,fun v hv=>by cases hv⟩ (by simp)
  unfold ipPutL ipPutErr at h
  rw[hx] at h
  have e:spHead sp=_:=sp_head4 (by rw[HSP.out])
  rw[e]
  rw[HSP.out] at h⊢
  exact h.mono fun _ _ h=>h.n rfl (by have:=hHb;rw[e] at this;rw[HSP.out] at this;exact this))
 have HLG:=Lib.hid (fun h=>sp_long (s:=sp) HG.out (by have:=HNB.out;omega) h)
 have HGD:=Lib.hid (fun h=>sp_good (s:=sp) HG.out (by have:=HNB.out;omega) h)
 have HPX:Hid (∀w',Calls Tryz.prog 48 #[.agg #[.int .u8 p,.int .u16 0,.int .u16 0,.int .u32 0,.int .u32 0,.int .u8 0,.int .u16 0,.int .u16 0,.string ⟨#[]⟩,.int .u8 (b/256),.int .u8 (b%256),.string (strOfNums (zerosL dn))],.string (strOfNums (adBytes false S)),.string (strOfNums (adBytes false T))] w' (BodyPost w' (spBody sp) 0)):=Lib.hid (fun w'=>by
  have e:spBody sp=tPut p (b/256) (b%256) 0 (zerosL dn) (adBytes false S) (adBytes false T):=by
   rw[HSP.out];unfold spBody
   simp only[hip,hii,Bool.false_eq_true,if_false,if_true,HDN.out.1,Int.toNat_natCast]
  have hdz:(zerosL dn).length≤2048:=by simp[zerosL];exact HDN.out.2
  have hbb:=HK.out.b
  simp only at hbb
  rw[e]
  exact rtput_icmp p _ _ (by simpa[isIcmp] using hii) _ _ _ hdz (zerosL_bytes _) HK1.out.1 HK1.out.2 HSB.out HTB.out (by omega) (by omega) w')
 have HBO:Hid (0≤b∧b<65536):=Lib.hid HK.out.b
 clear hq hip hii
 generalize spBody sp=B at*
 generalize spHead sp=H at*
 obtain⟨nB,hnB⟩:∃n,B.length=n:=⟨_,rfl⟩
 obtain⟨nH,hnH⟩:∃n,H.length=n:=⟨_,rfl⟩
 unfold BodyPost at HPX
 rw[hnB] at HPX HHD hBl
 rw[hnH] at HHD hHl
 have HNN:Hid (B.length=nB∧H.length=nH):=Lib.hid ⟨hnB,hnH⟩
 clear hnB hnH
 generalize strOfNums (adBytes false S)=SS at*
 generalize strOfNums (adBytes false T)=TS at*
 generalize strOfNums (zerosL dn)=DS at*
 have c34:z4.cell? ⟨w.heap.size+1,34,none⟩=some (.int .u8 p):=BX4.out.cell 0 34 rfl rfl
 go_wp2_with fail
 refine BX4.out.ret (HI.out _) ?_
 intro z5 hb5 BX5
 have HRB5:=Lib.hid (HRB4.out.below hb5)
 clear hb5 BX4 HRB4 c34
 have hb0:=HBO.out.1
 have hb1:=HBO.out.2
 have htd:Int.tdiv b 256=b/256:=Int.tdiv_eq_ediv_of_nonneg hb0
 have htm:Int.tmod b 256=b%256:=Int.tmod_eq_emod_of_nonneg hb0
 have hv1:IntKind.u16.wrap (b/256)=b/256:=by rw[IntKind.wrap_u16];omega
 have hv2:IntKind.u16.wrap (b%256)=b%256:=by rw[IntKind.wrap_u16];omega
 have hv3:IntKind.u8.wrap (b/256)=b/256:=by rw[IntKind.wrap_u8];omega
 have hv4:IntKind.u8.wrap (b%256)=b%256:=by rw[IntKind.wrap_u8];omega
 have hv5:b/256%256=b/256:=by omega
 have c34:z5.cell? ⟨w.heap.size+1,34,none⟩=some (.int .u8 p):=BX5.out.cell 0 34 rfl rfl
 have c35:z5.cell? ⟨w.heap.size+1,35,none⟩=some (.int .u16 a):=BX5.out.cell 0 35 rfl rfl
 have c36:z5.cell? ⟨w.heap.size+1,36,none⟩=some (.int .u16 b):=BX5.out.cell 0 36 rfl rfl
 have c37:z5.cell? ⟨w.heap.size,37,none⟩=some (.int .u8 f):=BX5.out.cell 1 37 rfl rfl
 have hl0:=BX5.out.lt 1 rfl
 have hl1:=BX5.out.lt 0 rfl
 have hge:=BX5.out.out.size
 clear HRB5
 go_wp2_with fail
 have BX6:=Lib.hid (BX5.out.box #[.int .u8 p,.int .u16 a,.int .u16 b,.int .u32 0,.int .u32 0,.int .u8 f,.int .u16 0,.int .u16 0,.string ⟨#[]⟩,.int .u8 0,.int .u8 0,.string DS] 102)
 clear c34 c35 c36 c37 BX5
 refine BX6.out.ret (HI.out _) ?_
 intro y6 hb6 BY6
 clear hb6 BX6 HI
 have c34:y6.cell? ⟨w.heap.size+1,34,none⟩=some (.int .u8 p):=BY6.out.cell 1 34 rfl rfl
 have c36:y6.cell? ⟨w.heap.size+1,36,none⟩=some (.int .u16 b):=BY6.out.cell 1 36 rfl rfl
 have hrf:rowFree y6 z5.heap.size 12=true:=BY6.out.row 0 rfl rfl
 have hps:partOf (y6.setRow z5.heap.size #[.int .u8 p,.int .u16 0,.int .u16 0,.int .u32 0,.int .u32 0,.int .u8 0,.int .u16 0,.int .u16 0,.string ⟨#[]⟩,.int .u8 (b/256),.int .u8 (b%256),.string DS]) z5.heap.size 0 12=#[.int .u8 p,.int .u16 0,.int .u16 0,.int .u32 0,.int .u32 0,.int .u8 0,.int .u16 0,.int .u16 0,.string ⟨#[]⟩,.int .u8 (b/256),.int .u8 (b%256),.string DS]:=partOf_all (setRow_row (BY6.out.at 0 rfl)) rfl
 have BX6:=Lib.hid (BY6.out.set #[.int .u8 p,.int .u16 0,.int .u16 0,.int .u32 0,.int .u32 0,.int .u8 0,.int .u16 0,.int .u16 0,.string ⟨#[]⟩,.int .u8 (b/256),.int .u8 (b%256),.string DS] (by omega) (by simp;omega))
 have hl5:z5.heap.size<y6.heap.size:=BY6.out.lt 0 rfl
 clear hl0 hl1 hge
 go_wp2_with fail
 refine Calls.mono (HPX.out _) ?_
 rintro e z6 ⟨oX,cX,rfl,hrX,hb6⟩
 have BX7:=Lib.hid (BX6.out.go hb6)
 have HRX:=Lib.hid hrX
 clear hrX hb6 BX6 BY6 c34 c36 hrf hps hl5 HPX htd htm hv1 hv2 hv3 hv4 hv5 hb0 hb1
 have c34:z6.cell? ⟨w.heap.size+1,34,none⟩=some (.int .u8 p):=BX7.out.cell 1 34 rfl rfl
 have hw1:IntKind.i64.wrap (20+(nB:Int))=20+(nB:Int):=by rw[IntKind.wrap_i64];omega
 have hw2:IntKind.u16.wrap (20+(nB:Int))=20+(nB:Int):=by rw[IntKind.wrap_u16];omega
 have hw3:IntKind.u16.wrap (nB:Int)=(nB:Int):=by rw[IntKind.wrap_u16];omega
 go_wp2_with fail
 refine Calls.mono (HHD.out _) ?_
 rintro e z7 ⟨oH,cH,rfl,hrH,hb7⟩
 have BX8:=Lib.hid (BX7.out.go hb7)
 have HRX8:=Lib.hid (HRX.out.below hb7)
 have HRH:=Lib.hid hrH
 clear hrH hb7 BX7 HRX c34
 have c0:z7.cell? ⟨w.heap.size+1,0,none⟩=some (.bool false):=BX8.out.cell 1 0 rfl rfl
 obtain⟨nJ,hnJ⟩:∃n,(H++B).length=n:=⟨_,rfl⟩
 have HJ:Hid (∀w' oH cH oX cX,Reads w' oH nH cH H→Reads w' oX nB cX B→Calls Tryz.prog 51 #[.slice oH nH cH,.slice oX nB cX] w' (NewN w' nJ (H++B))):=Lib.hid (fun w' oH cH oX cX h1 h2=>(Bits.join_any oH nH cH H oX nB cX B w' h1 h2 (by omega) (by omega)).mono fun _ _ h=>h.n hnJ (isBytes_app h1.byte h2.byte))
 have HNJ:Hid (nJ=nH+nB):=Lib.hid (by rw[←hnJ,List.length_append,HNN.out.1,HNN.out.2,Nat.add_comm])
 have HNL:=Lib.hid hnJ
 clear hnJ
 go_wp2_with fail
 refine Calls.mono (HJ.out _ _ _ _ _ HRH.out HRX8.out) ?_
 rintro e z8 ⟨oJ,cJ,rfl,hrJ,hb8⟩
 have HB8:=Lib.hid (BX8.out.go hb8).out
 have HRJ:=Lib.hid hrJ
 clear hrJ hb8 BX8 HRH HRX8 c0 HJ hw1 hw2 hw3
 by_cases hlong:2048<nJ
 ·have h4:decide ((2048:Int)<(nJ:Int))=true:=by simpa using(by omega:(2048:Int)<(nJ:Int))
  obtain⟨e1,e2⟩:=HLG.out (by rw[HNL.out];exact hlong)
  have HEE:=Lib.hid (And.intro e1 e2)
  clear e1 e2 hlong
  go_wp2_with fail
  go_ret2
  rw[HEE.out.1,HEE.out.2]
  exact noBody HB8.out
 ·have h4:decide ((2048:Int)<(nJ:Int))=false:=by simpa using(by omega:¬(2048:Int)<(nJ:Int))
  obtain⟨e1,e2⟩:=HGD.out (by rw[HNL.out];exact hlong)
  have HEE:=Lib.hid (And.intro e1 e2)
  clear e1 e2 hlong
  go_wp2_with fail
  go_ret2
  rw[HEE.out.1,HEE.out.2]
  exact⟨oJ,cJ,by rw[HNL.out];rfl,by rw[HNL.out];exact HRJ.out,HB8.out⟩
end
end Go.Proofs.YtkgjbipfhhjlpaaGreatDoor
