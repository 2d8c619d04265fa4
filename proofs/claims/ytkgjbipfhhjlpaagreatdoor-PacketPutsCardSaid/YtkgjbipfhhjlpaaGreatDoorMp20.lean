import Derived.Test.YtkgjbipfhhjlpaaGreatDoorMp19
set_option linter.unusedVariables false
set_option linter.unusedSimpArgs false
set_option maxRecDepth 100000
set_option maxHeartbeats 32000000
namespace Go.Proofs.YtkgjbipfhhjlpaaGreatDoor
section
open Go.RowKit
theorem sp_no {s:Sp}(h:spBad s=true):spErr s=2∧spL s=[]:=by
 have:spErr s=2:=by unfold spErr;rw[if_pos h]
 exact⟨this,by unfold spL;rw[this];rfl⟩
theorem sp_big {s:Sp}(h:spBad s=false)(hn:2048<s.n):spErr s=3∧spL s=[]:=by
 have:spErr s=3:=by unfold spErr;rw[if_neg (by rw[h];decide),if_pos hn]
 exact⟨this,by unfold spL;rw[this];rfl⟩
theorem sp_long {s:Sp}(h:spBad s=false)(hn:¬2048<s.n)(hl:2048<(spHead s++spBody s).length):spErr s=3∧spL s=[]:=by
 have:spErr s=3:=by unfold spErr;rw[if_neg (by rw[h];decide),if_neg hn,if_pos hl]
 exact⟨this,by unfold spL;rw[this];rfl⟩
theorem sp_good {s:Sp}(h:spBad s=false)(hn:¬2048<s.n)(hl:¬2048<(spHead s++spBody s).length):spErr s=0∧spL s=spHead s++spBody s:=by
 have:spErr s=0:=by unfold spErr;rw[if_neg (by rw[h];decide),if_neg hn,if_neg hl]
 exact⟨this,by unfold spL;rw[this];rfl⟩
theorem tPut_len (p a b f:Int)(d src dst:List Int):(tPut p a b f d src dst).length≤20+d.length:=by
 unfold tPut tStands
 split
 ·simp[be2];omega
 ·split
  ·simp[be2];omega
  ·simp[be2];omega
theorem tPut_byte (p a b f:Int)(d src dst:List Int)(hp:¬(p=6∨p=17)→(0≤a∧a<256)∧(0≤b∧b<256))(hf:0≤f∧f<256)(hd:IsBytes d):IsBytes (tPut p a b f d src dst):=by
 unfold tPut tStands
 split
 ·refine isBytes_app (isBytes_app (isBytes_app (isBytes_app (isBytes_app (be2_bytes _) (be2_bytes _)) ?_) (be2_bytes _)) ?_) hd
  ·intro v hv
   simp only[List.mem_cons,List.not_mem_nil,or_false] at hv
   rcases hv with rfl|rfl|rfl|rfl|rfl|rfl|rfl|rfl|rfl|rfl|rfl|rfl<;>first|exact hf|decide
  ·intro v hv
   simp only[List.mem_cons,List.not_mem_nil,or_false] at hv
   rcases hv with rfl|rfl<;>decide
 ·split
  ·exact isBytes_app (isBytes_app (isBytes_app (isBytes_app (be2_bytes _) (be2_bytes _)) (be2_bytes _)) (be2_bytes _)) hd
  ·rename_i h1 h2
   have:=hp (by omega)
   refine isBytes_app (isBytes_app ?_ (be2_bytes _)) hd
   intro v hv
   simp only[List.mem_cons,List.not_mem_nil,or_false] at hv
   rcases hv with rfl|rfl
   ·exact this.1
   ·exact this.2
theorem zerosL_bytes (n:Nat):IsBytes (zerosL n):=fun v hv=>by rw[(List.mem_replicate.1 hv).2];decide
theorem spBody_len (s:Sp):(spBody s).length≤20+s.n.toNat:=by
 unfold spBody
 have hz:=sp_zeros s
 simp only
 split
 ·have:=tPut_len s.k.p s.k.a s.k.b s.f (zerosL s.n.toNat) (adBytes s.k.s s.k.S) (adBytes s.k.t s.k.T);omega
 ·split
  ·have:=tPut_len s.k.p (s.k.b/256) (s.k.b%256) 0 (zerosL s.n.toNat) (adBytes s.k.s s.k.S) (adBytes s.k.t s.k.T);omega
  ·omega
theorem spBody_byte {s:Sp}(ho:SpOk s):IsBytes (spBody s):=by
 unfold spBody
 have hb:=ho.k.b
 simp only
 split
 ·rename_i h
  have h':s.k.p=6∨s.k.p=17:=by simpa[isPorts] using h
  exact tPut_byte _ _ _ _ _ _ _ (fun h=>absurd h' h) ho.f (zerosL_bytes _)
 ·split
  ·exact tPut_byte _ _ _ _ _ _ _ (fun _=>⟨by omega,by omega⟩) (by decide) (zerosL_bytes _)
  ·exact zerosL_bytes _
theorem spHead_byte {s:Sp}(ho:SpOk s):IsBytes (spHead s):=by
 unfold spHead
 have hp:=ho.k.p
 split
 ·unfold spSix
  refine isBytes_app (isBytes_app (isBytes_app (isBytes_app (be4_bytes _) (be2_bytes _)) ?_) (adBytes_isb ho.k.S _)) (adBytes_isb ho.k.T _)
  intro v hv
  simp only[List.mem_cons,List.not_mem_nil,or_false] at hv
  rcases hv with rfl|rfl
  ·exact hp
  ·decide
 ·unfold ipPut ipStands spFour
  refine isBytes_app (isBytes_app (isBytes_app (isBytes_app (isBytes_app (isBytes_app ?_ (be2_bytes _)) (be2_bytes _)) (be2_bytes _)) ?_) (be2_bytes _)) (isBytes_app (isBytes_app (adBytes_isb ho.k.S _) (adBytes_isb ho.k.T _)) (fun v hv=>by cases hv))
  ·intro v hv
   simp only[List.mem_cons,List.not_mem_nil,or_false,List.length_nil] at hv
   rcases hv with rfl|rfl<;>decide
  ·intro v hv
   simp only[List.mem_cons,List.not_mem_nil,or_false] at hv
   rcases hv with rfl|rfl
   ·decide
   ·exact hp
theorem spL_byte {s:Sp}(ho:SpOk s):IsBytes (spL s):=by
 unfold spL
 split
 ·exact isBytes_app (spHead_byte ho) (spBody_byte ho)
 ·intro v hv;cases hv
theorem noBytes {w w':World}{err:Int}(h:Below w.heap.size w w'):BytesErr w [] err (.returned (.tuple #[.slice none 0 0,.int .i64 err])) w':=
 ⟨none,0,rfl,by simpa using Owns.nil w' w.heap.size 1,h⟩
theorem chright_none (p:Int)(w:World):Calls Tryz.prog 42 #[.agg #[.slice none 0 0,.int .u8 p]] w (RetAt w (.bool (!behindB p))):=by
 have:=chright_any 0 none 0 [] [] p w ⟨Owns.nil _ _ _,rfl,fun i e x h=>by simp at h⟩ .nil (fun x hx=>by cases hx)
 rwa [show lastLater []=false from rfl,Bool.or_false] at this
theorem spseg_any (s:Bool)(S:Nat→Int)(t:Bool)(T:Nat→Int)(p a b f:Int)(d:Nat)(hd:d≤2048)(hk:KyOk ⟨s,S,t,T,p,a,b⟩)(hf:0≤f∧f<256)(hg:spBad ⟨⟨s,S,t,T,p,a,b⟩,f,d⟩=false)(w:World):
 Calls Tryz.prog 43 #[.agg (spC s S t T p a b f d)] w (BytesErr w (spBody ⟨⟨s,S,t,T,p,a,b⟩,f,d⟩) 0):=by
 have hp:=hk.p
 have ha:=hk.a
 have hb:=hk.b
 simp only at hp ha hb
 unfold spBad at hg
 simp only[Bool.or_eq_false_iff,Bool.not_eq_false',Bool.and_eq_false_iff,bne_eq_false_iff_eq,decide_eq_false_iff_not] at hg
 obtain⟨hkr,-,hfl,-⟩:=hg
 unfold kyRight at hkr
 simp only[Bool.and_eq_true,beq_iff_eq] at hkr
 obtain rfl:s=t:=hkr.2.2.1
 have hS:=hk.S
 have hT:=hk.T
 simp only at hS hT
 unfold spBody
 simp only[Int.toNat_natCast]
 cases hip:isPorts p with
 |true=>
  rw[if_pos rfl]
  rcases(by simpa[isPorts] using hip:p=6∨p=17) with rfl|rfl
  ·exact spseg_ports s S T 6 a b f d hd hS hT hip (fun l=>tPut 6 a b f l (adBytes s S) (adBytes s T)) (fun oD n cD l o1 o2 k c1 c2 w h0 h1 h2 hk hn=>tput_tcp a b f oD n cD l o1 o2 k c1 c2 _ _ w h0 h1 h2 hk hn ha hb hf) w
  ·obtain rfl:f=0:=by rcases hfl with h|h;exact h;cases h
   exact spseg_ports s S T 17 a b 0 d hd hS hT hip (fun l=>tPut 17 a b 0 l (adBytes s S) (adBytes s T)) (fun oD n cD l o1 o2 k c1 c2 w h0 h1 h2 hk hn=>tput_udp a b oD n cD l o1 o2 k c1 c2 _ _ w h0 h1 h2 hk hn ha hb) w
 |false=>
  rw[if_neg (by decide)]
  cases hii:isIcmp p with
  |true=>
   rw[if_pos rfl]
   exact spseg_icmp s S T p a b f d hd hS hT hip hii hb w
  |false=>
   rw[if_neg (by decide)]
   exact spseg_none s S T p a b f d hd hip hii w
theorem spput_four (S:Nat→Int)(t:Bool)(T:Nat→Int)(p a b f d:Int)(ho:SpOk ⟨⟨false,S,t,T,p,a,b⟩,f,d⟩)(w:World):
 Calls Tryz.prog 15 #[.agg (spC false S t T p a b f d)] w (BytesErr w (spL ⟨⟨false,S,t,T,p,a,b⟩,f,d⟩) (spErr ⟨⟨false,S,t,T,p,a,b⟩,f,d⟩)):=by
 have HK:Hid (KyOk ⟨false,S,t,T,p,a,b⟩):=Lib.hid ho.k
 have HF:Hid (0≤f∧f<256):=Lib.hid ho.f
 have HOK:=Lib.hid ho
 have HR:Hid (∀w,Calls Tryz.prog 26 #[.agg (kyC false S t T p a b)] w (RetAt w (.bool (kyRight ⟨false,S,t,T,p,a,b⟩)))):=Lib.hid fun w=>kright_any false S t T p a b w
 have HC:Hid (∀w,Calls Tryz.prog 42 #[.agg #[.slice none 0 0,.int .u8 p]] w (RetAt w (.bool (!behindB p)))):=Lib.hid fun w=>chright_none p w
 obtain⟨sp,hsp⟩:∃sp:Sp,sp=⟨⟨false,S,t,T,p,a,b⟩,f,d⟩:=⟨_,rfl⟩
 rw[←hsp]
 have HSP:=Lib.hid hsp
 obtain⟨r,hr⟩:∃r,kyRight ⟨false,S,t,T,p,a,b⟩=r:=⟨_,rfl⟩
 obtain⟨bh,hbh⟩:∃r,behindB p=r:=⟨_,rfl⟩
 rw[hr] at HR
 rw[hbh] at HC
 have HBAD:Hid (spBad sp=(!r||((false&&bh)||((f != 0&&p != 6)||decide (d<0))))):=Lib.hid (by rw[hsp,←hr,←hbh];rfl)
 have hd0:=ho.n
 clear hr hbh ho hsp
 have hbx:=((Bx.start w).box (spC false S t T p a b f d) 47).box (kyC false S t T p a b) 30
 rw[show(w.alloc (.cells (spC false S t T p a b f d) 47)).heap.size=w.heap.size+1 by simp] at hbx
 have BX0:=Lib.hid hbx
 clear hbx
 unfold spC kyC at*
 go_enter Tryz.func15,Tryz.ntmps15
 go_wp2_with fail
 refine BX0.out.ret (HR.out _) ?_
 intro z1 hb1 BX1
 clear hb1 BX0
 cases r
 ·obtain⟨e1,e2⟩:=sp_no (s:=sp) (by rw[HBAD.out];rfl)
  have HEE:=Lib.hid (And.intro e1 e2)
  clear e1 e2 hd0
  go_wp2_with fail
  go_ret2
  rw[HEE.out.1,HEE.out.2]
  exact noBytes BX1.out.out
 have c37:z1.cell? ⟨w.heap.size,37,none⟩=some (.int .u8 f):=BX1.out.cell 1 37 rfl rfl
 have c38:z1.cell? ⟨w.heap.size,38,none⟩=some (.int .i64 d):=BX1.out.cell 1 38 rfl rfl
 have c34:z1.cell? ⟨w.heap.size+1,34,none⟩=some (.int .u8 p):=BX1.out.cell 0 34 rfl rfl
 have p39:partOf z1 w.heap.size 0 39=#[.bool false,.int .u8 (S 0),.int .u8 (S 1),.int .u8 (S 2),.int .u8 (S 3),.int .u8 (S 4),.int .u8 (S 5),.int .u8 (S 6),.int .u8 (S 7),.int .u8 (S 8),.int .u8 (S 9),.int .u8 (S 10),.int .u8 (S 11),.int .u8 (S 12),.int .u8 (S 13),.int .u8 (S 14),.int .u8 (S 15),.bool t,.int .u8 (T 0),.int .u8 (T 1),.int .u8 (T 2),.int .u8 (T 3),.int .u8 (T 4),.int .u8 (T 5),.int .u8 (T 6),.int .u8 (T 7),.int .u8 (T 8),.int .u8 (T 9),.int .u8 (T 10),.int .u8 (T 11),.int .u8 (T 12),.int .u8 (T 13),.int .u8 (T 14),.int .u8 (T 15),.int .u8 p,.int .u16 a,.int .u16 b,.int .u8 f,.int .i64 d]:=BX1.out.part 1 rfl rfl
 rcases(by cases h1:(f != 0)<;>cases h2:(p != 6)<;>simp:(f != 0)=false∨((f != 0)=true∧(p != 6)=false)∨((f != 0)=true∧(p != 6)=true)) with hq|⟨hq,hq2⟩|⟨hq,hq2⟩
 rotate_right
 ·obtain⟨e1,e2⟩:=sp_no (s:=sp) (by rw[HBAD.out,hq,hq2];simp)
  have HEE:=Lib.hid (And.intro e1 e2)
  clear e1 e2 hd0
  go_wp2_with fail
  go_ret2
  rw[HEE.out.1,HEE.out.2]
  exact noBytes BX1.out.out
 all_goals
  by_cases hdn:d<0
  ·have h2:decide (d<0)=true:=by simpa using hdn
   obtain⟨e1,e2⟩:=sp_no (s:=sp) (by rw[HBAD.out,hq,h2];simp)
   have HEE:=Lib.hid (And.intro e1 e2)
   clear e1 e2 hd0 hdn
   go_wp2_with fail
   go_ret2
   rw[HEE.out.1,HEE.out.2]
   exact noBytes BX1.out.out
  ·have h2:decide (d<0)=false:=by simpa using hdn
   have hg:spBad sp=false:=by rw[HBAD.out,h2];first|(rw[hq,hq2];rfl)|(rw[hq];rfl)
   by_cases hbig:2048<d
   ·have h3:decide (2048<d)=true:=by simpa using hbig
    obtain⟨e1,e2⟩:=sp_big (s:=sp) hg (by rw[HSP.out];exact hbig)
    have HEE:=Lib.hid (And.intro e1 e2)
    clear e1 e2 hd0 hdn hbig hg
    go_wp2_with fail
    go_ret2
    rw[HEE.out.1,HEE.out.2]
    exact noBytes BX1.out.out
   ·have h3:decide (2048<d)=false:=by simpa using hbig
    have HG:=Lib.hid hg
    have HNB:Hid (¬2048<sp.n):=Lib.hid (by rw[HSP.out];exact hbig)
    obtain⟨dn,hdd⟩:=Int.eq_ofNat_of_zero_le (show 0≤d by omega)
    have hdl:dn≤2048:=by omega
    have HSG:Hid (∀w,Calls Tryz.prog 43 #[.agg #[.bool false,.int .u8 (S 0),.int .u8 (S 1),.int .u8 (S 2),.int .u8 (S 3),.int .u8 (S 4),.int .u8 (S 5),.int .u8 (S 6),.int .u8 (S 7),.int .u8 (S 8),.int .u8 (S 9),.int .u8 (S 10),.int .u8 (S 11),.int .u8 (S 12),.int .u8 (S 13),.int .u8 (S 14),.int .u8 (S 15),.bool t,.int .u8 (T 0),.int .u8 (T 1),.int .u8 (T 2),.int .u8 (T 3),.int .u8 (T 4),.int .u8 (T 5),.int .u8 (T 6),.int .u8 (T 7),.int .u8 (T 8),.int .u8 (T 9),.int .u8 (T 10),.int .u8 (T 11),.int .u8 (T 12),.int .u8 (T 13),.int .u8 (T 14),.int .u8 (T 15),.int .u8 p,.int .u16 a,.int .u16 b,.int .u8 f,.int .i64 d]] w (BytesErr w (spBody sp) 0)):=Lib.hid (fun w=>by
     have:=spseg_any false S t T p a b f dn hdl HK.out HF.out (by rw[←hdd,←HSP.out];exact hg) w
     rw[←hdd,←HSP.out] at this
     exact this)
    have hBl:(spBody sp).length≤2068:=by have:=spBody_len sp;rw[HSP.out] at this⊢;simp only at this;omega
    have hBb:IsBytes (spBody sp):=spBody_byte (by rw[HSP.out];exact HOK.out)
    have HHD:Hid (∀w,Calls Tryz.prog 44 #[.agg #[.bool false,.int .u8 (S 0),.int .u8 (S 1),.int .u8 (S 2),.int .u8 (S 3),.int .u8 (S 4),.int .u8 (S 5),.int .u8 (S 6),.int .u8 (S 7),.int .u8 (S 8),.int .u8 (S 9),.int .u8 (S 10),.int .u8 (S 11),.int .u8 (S 12),.int .u8 (S 13),.int .u8 (S 14),.int .u8 (S 15),.bool t,.int .u8 (T 0),.int .u8 (T 1),.int .u8 (T 2),.int .u8 (T 3),.int .u8 (T 4),.int .u8 (T 5),.int .u8 (T 6),.int .u8 (T 7),.int .u8 (T 8),.int .u8 (T 9),.int .u8 (T 10),.int .u8 (T 11),.int .u8 (T 12),.int .u8 (T 13),.int .u8 (T 14),.int .u8 (T 15),.int .u8 p,.int .u16 a,.int .u16 b,.int .u8 f,.int .i64 d],.int .i64 ((spBody sp).length:Nat)] w (BytesErr w (spHead sp) 0)):=Lib.hid (fun w=>by
     have:=sphead_four S t T p a b f d (spBody sp).length (by omega) HK.out.S HK.out.T HK.out.p w
     have hh:spHead sp=_:=sp_head4 (by rw[HSP.out])
     rw[hh]
     rw[HSP.out] at this⊢
     exact this)
    have hHl:(spHead sp).length≤40:=by rw[sp_head_len];split<;>omega
    have HLG:=Lib.hid (fun h=>sp_long (s:=sp) HG.out HNB.out h)
    have HGD:=Lib.hid (fun h=>sp_good (s:=sp) HG.out HNB.out h)
    generalize spBody sp=B at*
    generalize spHead sp=H at*
    have HBB:=Lib.hid hBb
    obtain⟨nB,hnB⟩:∃n,B.length=n:=⟨_,rfl⟩
    obtain⟨nH,hnH⟩:∃n,H.length=n:=⟨_,rfl⟩
    unfold BytesErr at HSG HHD
    rw[hnB] at HSG HHD hBl
    rw[hnH] at HHD hHl
    have HNN:Hid (B.length=nB∧H.length=nH):=Lib.hid ⟨hnB,hnH⟩
    clear hg hbig hdn hd0 hdl hdd hBb hnB hnH
    go_wp2_with fail
    refine Calls.mono (HSG.out _) ?_
    rintro e z2 ⟨oB,cB,rfl,hoB,hb2⟩
    have BX2:=Lib.hid (BX1.out.go hb2)
    have HOB:=Lib.hid hoB
    have HRB:=Lib.hid (hoB.reads HBB.out)
    have HAB:=Lib.hid (fun a (h:oB=some a)=>(hoB.lt h).2)
    clear hoB hb2 BX1 c34 c37 c38 p39
    have q39:partOf z2 w.heap.size 0 39=#[.bool false,.int .u8 (S 0),.int .u8 (S 1),.int .u8 (S 2),.int .u8 (S 3),.int .u8 (S 4),.int .u8 (S 5),.int .u8 (S 6),.int .u8 (S 7),.int .u8 (S 8),.int .u8 (S 9),.int .u8 (S 10),.int .u8 (S 11),.int .u8 (S 12),.int .u8 (S 13),.int .u8 (S 14),.int .u8 (S 15),.bool t,.int .u8 (T 0),.int .u8 (T 1),.int .u8 (T 2),.int .u8 (T 3),.int .u8 (T 4),.int .u8 (T 5),.int .u8 (T 6),.int .u8 (T 7),.int .u8 (T 8),.int .u8 (T 9),.int .u8 (T 10),.int .u8 (T 11),.int .u8 (T 12),.int .u8 (T 13),.int .u8 (T 14),.int .u8 (T 15),.int .u8 p,.int .u16 a,.int .u16 b,.int .u8 f,.int .i64 d]:=BX2.out.part 1 rfl rfl
    go_wp2_with fail
    refine Calls.mono (HHD.out _) ?_
    rintro e z3 ⟨oH,cH,rfl,hoH,hb3⟩
    have BX3:=Lib.hid (BX2.out.go hb3)
    have HOH:=Lib.hid hoH
    have HRB3:=Lib.hid (HRB.out.below hb3)
    have HS3:=Lib.hid hb3.size
    have HZ2:=Lib.hid BX2.out.out.size
    clear hoH hb3 BX2 HRB HOB q39 HAB
    have hs1:IntKind.i64.wrap ((nH:Int)+(nB:Int))=(nH:Int)+(nB:Int):=by rw[IntKind.wrap_i64];omega
    by_cases hlong:2048<nH+nB
    ·have h4:decide ((2048:Int)<(nH:Int)+(nB:Int))=true:=by simpa using(by omega:(2048:Int)<(nH:Int)+(nB:Int))
     obtain⟨e1,e2⟩:=HLG.out (by rw[List.length_append,HNN.out.1,HNN.out.2];exact hlong)
     have HEE:=Lib.hid (And.intro e1 e2)
     clear e1 e2 hlong
     go_wp2_with fail
     go_ret2
     rw[HEE.out.1,HEE.out.2]
     exact noBytes BX3.out.out
    ·have h4:decide ((2048:Int)<(nH:Int)+(nB:Int))=false:=by simpa using(by omega:¬(2048:Int)<(nH:Int)+(nB:Int))
     obtain⟨e1,e2⟩:=HGD.out (by rw[List.length_append,HNN.out.1,HNN.out.2];exact hlong)
     have HEE:=Lib.hid (And.intro e1 e2)
     clear e1 e2
     have HL:Hid (nH+nB≤2048):=Lib.hid (by omega)
     clear hlong hBl hHl
     go_wp2_with (at_builtin;refine Stopped.of ?_)
     refine Stopped.mk ?_
     refine wpList_append_reads _ rfl _ _ 22 rfl 5 z2.heap.size Tryz.underlying22 Bits.infoU8 oH nH cH _ rfl HOH.out oB nB cB B rfl HRB3.out (by have:=HL.out;omega) HS3.out ?_
     intro oa' cap' w' ho' hg' hd'
     have HB':=Lib.hid (Below.appended (BX3.out.out) (HOH.out.mono HZ2.out) (Nat.le_refl _) hg' (Nat.le_trans HZ2.out HS3.out))
     rw[←List.map_append] at ho'
     have HO':=Lib.hid ho'
     clear ho' hg' hd'
     go_wp2_with fail
     go_ret2
     rw[HEE.out.1,HEE.out.2]
     exact⟨oa',cap',by rw[List.length_append,HNN.out.1,HNN.out.2];rfl,by rw[List.length_append,HNN.out.1,HNN.out.2];exact HO'.out.mono HZ2.out,HB'.out⟩
theorem spput_six (S:Nat→Int)(t:Bool)(T:Nat→Int)(p a b f d:Int)(ho:SpOk ⟨⟨true,S,t,T,p,a,b⟩,f,d⟩)(w:World):
 Calls Tryz.prog 15 #[.agg (spC true S t T p a b f d)] w (BytesErr w (spL ⟨⟨true,S,t,T,p,a,b⟩,f,d⟩) (spErr ⟨⟨true,S,t,T,p,a,b⟩,f,d⟩)):=by
 have HK:Hid (KyOk ⟨true,S,t,T,p,a,b⟩):=Lib.hid ho.k
 have HF:Hid (0≤f∧f<256):=Lib.hid ho.f
 have HOK:=Lib.hid ho
 have HR:Hid (∀w,Calls Tryz.prog 26 #[.agg (kyC true S t T p a b)] w (RetAt w (.bool (kyRight ⟨true,S,t,T,p,a,b⟩)))):=Lib.hid fun w=>kright_any true S t T p a b w
 have HC:Hid (∀w,Calls Tryz.prog 42 #[.agg #[.slice none 0 0,.int .u8 p]] w (RetAt w (.bool (!behindB p)))):=Lib.hid fun w=>chright_none p w
 obtain⟨sp,hsp⟩:∃sp:Sp,sp=⟨⟨true,S,t,T,p,a,b⟩,f,d⟩:=⟨_,rfl⟩
 rw[←hsp]
 have HSP:=Lib.hid hsp
 obtain⟨r,hr⟩:∃r,kyRight ⟨true,S,t,T,p,a,b⟩=r:=⟨_,rfl⟩
 obtain⟨bh,hbh⟩:∃r,behindB p=r:=⟨_,rfl⟩
 rw[hr] at HR
 rw[hbh] at HC
 have HBAD:Hid (spBad sp=(!r||((true&&bh)||((f != 0&&p != 6)||decide (d<0))))):=Lib.hid (by rw[hsp,←hr,←hbh];rfl)
 have hd0:=ho.n
 clear hr hbh ho hsp
 have hbx:=((Bx.start w).box (spC true S t T p a b f d) 47).box (kyC true S t T p a b) 30
 rw[show(w.alloc (.cells (spC true S t T p a b f d) 47)).heap.size=w.heap.size+1 by simp] at hbx
 have BX0:=Lib.hid hbx
 clear hbx
 unfold spC kyC at*
 go_enter Tryz.func15,Tryz.ntmps15
 go_wp2_with fail
 refine BX0.out.ret (HC.out _) ?_
 intro z0 hb0 BXA
 clear hb0 BX0
 have p37:partOf z0 (w.heap.size+1) 0 37=#[.bool true,.int .u8 (S 0),.int .u8 (S 1),.int .u8 (S 2),.int .u8 (S 3),.int .u8 (S 4),.int .u8 (S 5),.int .u8 (S 6),.int .u8 (S 7),.int .u8 (S 8),.int .u8 (S 9),.int .u8 (S 10),.int .u8 (S 11),.int .u8 (S 12),.int .u8 (S 13),.int .u8 (S 14),.int .u8 (S 15),.bool t,.int .u8 (T 0),.int .u8 (T 1),.int .u8 (T 2),.int .u8 (T 3),.int .u8 (T 4),.int .u8 (T 5),.int .u8 (T 6),.int .u8 (T 7),.int .u8 (T 8),.int .u8 (T 9),.int .u8 (T 10),.int .u8 (T 11),.int .u8 (T 12),.int .u8 (T 13),.int .u8 (T 14),.int .u8 (T 15),.int .u8 p,.int .u16 a,.int .u16 b]:=BXA.out.part 0 rfl rfl
 cases bh
 rotate_left
 ·obtain⟨e1,e2⟩:=sp_no (s:=sp) (by rw[HBAD.out];cases r<;>rfl)
  have HEE:=Lib.hid (And.intro e1 e2)
  clear e1 e2 hd0
  go_wp2_with fail
  refine BXA.out.ret (HR.out _) ?_
  intro z1 hb1 BX1
  clear hb1 BXA p37
  cases r
  all_goals
   go_wp2_with fail
   go_ret2
   rw[HEE.out.1,HEE.out.2]
   exact noBytes BX1.out.out
 go_wp2_with fail
 refine BXA.out.ret (HR.out _) ?_
 intro z1 hb1 BX1
 clear hb1 BXA p37
 cases r
 ·obtain⟨e1,e2⟩:=sp_no (s:=sp) (by rw[HBAD.out];rfl)
  have HEE:=Lib.hid (And.intro e1 e2)
  clear e1 e2 hd0
  go_wp2_with fail
  go_ret2
  rw[HEE.out.1,HEE.out.2]
  exact noBytes BX1.out.out
 have c37:z1.cell? ⟨w.heap.size,37,none⟩=some (.int .u8 f):=BX1.out.cell 1 37 rfl rfl
 have c38:z1.cell? ⟨w.heap.size,38,none⟩=some (.int .i64 d):=BX1.out.cell 1 38 rfl rfl
 have c34:z1.cell? ⟨w.heap.size+1,34,none⟩=some (.int .u8 p):=BX1.out.cell 0 34 rfl rfl
 have p39:partOf z1 w.heap.size 0 39=#[.bool true,.int .u8 (S 0),.int .u8 (S 1),.int .u8 (S 2),.int .u8 (S 3),.int .u8 (S 4),.int .u8 (S 5),.int .u8 (S 6),.int .u8 (S 7),.int .u8 (S 8),.int .u8 (S 9),.int .u8 (S 10),.int .u8 (S 11),.int .u8 (S 12),.int .u8 (S 13),.int .u8 (S 14),.int .u8 (S 15),.bool t,.int .u8 (T 0),.int .u8 (T 1),.int .u8 (T 2),.int .u8 (T 3),.int .u8 (T 4),.int .u8 (T 5),.int .u8 (T 6),.int .u8 (T 7),.int .u8 (T 8),.int .u8 (T 9),.int .u8 (T 10),.int .u8 (T 11),.int .u8 (T 12),.int .u8 (T 13),.int .u8 (T 14),.int .u8 (T 15),.int .u8 p,.int .u16 a,.int .u16 b,.int .u8 f,.int .i64 d]:=BX1.out.part 1 rfl rfl
 rcases(by cases h1:(f != 0)<;>cases h2:(p != 6)<;>simp:(f != 0)=false∨((f != 0)=true∧(p != 6)=false)∨((f != 0)=true∧(p != 6)=true)) with hq|⟨hq,hq2⟩|⟨hq,hq2⟩
 rotate_right
 ·obtain⟨e1,e2⟩:=sp_no (s:=sp) (by rw[HBAD.out,hq,hq2];simp)
  have HEE:=Lib.hid (And.intro e1 e2)
  clear e1 e2 hd0
  go_wp2_with fail
  go_ret2
  rw[HEE.out.1,HEE.out.2]
  exact noBytes BX1.out.out
 all_goals
  by_cases hdn:d<0
  ·have h2:decide (d<0)=true:=by simpa using hdn
   obtain⟨e1,e2⟩:=sp_no (s:=sp) (by rw[HBAD.out,hq,h2];simp)
   have HEE:=Lib.hid (And.intro e1 e2)
   clear e1 e2 hd0 hdn
   go_wp2_with fail
   go_ret2
   rw[HEE.out.1,HEE.out.2]
   exact noBytes BX1.out.out
  ·have h2:decide (d<0)=false:=by simpa using hdn
   have hg:spBad sp=false:=by rw[HBAD.out,h2];first|(rw[hq,hq2];rfl)|(rw[hq];rfl)
   by_cases hbig:2048<d
   ·have h3:decide (2048<d)=true:=by simpa using hbig
    obtain⟨e1,e2⟩:=sp_big (s:=sp) hg (by rw[HSP.out];exact hbig)
    have HEE:=Lib.hid (And.intro e1 e2)
    clear e1 e2 hd0 hdn hbig hg
    go_wp2_with fail
    go_ret2
    rw[HEE.out.1,HEE.out.2]
    exact noBytes BX1.out.out
   ·have h3:decide (2048<d)=false:=by simpa using hbig
    have HG:=Lib.hid hg
    have HNB:Hid (¬2048<sp.n):=Lib.hid (by rw[HSP.out];exact hbig)
    obtain⟨dn,hdd⟩:=Int.eq_ofNat_of_zero_le (show 0≤d by omega)
    have hdl:dn≤2048:=by omega
    have HSG:Hid (∀w,Calls Tryz.prog 43 #[.agg #[.bool true,.int .u8 (S 0),.int .u8 (S 1),.int .u8 (S 2),.int .u8 (S 3),.int .u8 (S 4),.int .u8 (S 5),.int .u8 (S 6),.int .u8 (S 7),.int .u8 (S 8),.int .u8 (S 9),.int .u8 (S 10),.int .u8 (S 11),.int .u8 (S 12),.int .u8 (S 13),.int .u8 (S 14),.int .u8 (S 15),.bool t,.int .u8 (T 0),.int .u8 (T 1),.int .u8 (T 2),.int .u8 (T 3),.int .u8 (T 4),.int .u8 (T 5),.int .u8 (T 6),.int .u8 (T 7),.int .u8 (T 8),.int .u8 (T 9),.int .u8 (T 10),.int .u8 (T 11),.int .u8 (T 12),.int .u8 (T 13),.int .u8 (T 14),.int .u8 (T 15),.int .u8 p,.int .u16 a,.int .u16 b,.int .u8 f,.int .i64 d]] w (BytesErr w (spBody sp) 0)):=Lib.hid (fun w=>by
     have:=spseg_any true S t T p a b f dn hdl HK.out HF.out (by rw[←hdd,←HSP.out];exact hg) w
     rw[←hdd,←HSP.out] at this
     exact this)
    have hBl:(spBody sp).length≤2068:=by have:=spBody_len sp;rw[HSP.out] at this⊢;simp only at this;omega
    have hBb:IsBytes (spBody sp):=spBody_byte (by rw[HSP.out];exact HOK.out)
    have HHD:Hid (∀w,Calls Tryz.prog 44 #[.agg #[.bool true,.int .u8 (S 0),.int .u8 (S 1),.int .u8 (S 2),.int .u8 (S 3),.int .u8 (S 4),.int .u8 (S 5),.int .u8 (S 6),.int .u8 (S 7),.int .u8 (S 8),.int .u8 (S 9),.int .u8 (S 10),.int .u8 (S 11),.int .u8 (S 12),.int .u8 (S 13),.int .u8 (S 14),.int .u8 (S 15),.bool t,.int .u8 (T 0),.int .u8 (T 1),.int .u8 (T 2),.int .u8 (T 3),.int .u8 (T 4),.int .u8 (T 5),.int .u8 (T 6),.int .u8 (T 7),.int .u8 (T 8),.int .u8 (T 9),.int .u8 (T 10),.int .u8 (T 11),.int .u8 (T 12),.int .u8 (T 13),.int .u8 (T 14),.int .u8 (T 15),.int .u8 p,.int .u16 a,.int .u16 b,.int .u8 f,.int .i64 d],.int .i64 ((spBody sp).length:Nat)] w (BytesErr w (spHead sp) 0)):=Lib.hid (fun w=>by
     have:=sphead_six S t T p a b f d (spBody sp).length (by omega) HK.out.S HK.out.T HK.out.p w
     have hh:spHead sp=_:=sp_head6 (by rw[HSP.out])
     rw[hh]
     rw[HSP.out] at this⊢
     exact this)
    have hHl:(spHead sp).length≤40:=by rw[sp_head_len];split<;>omega
    have HLG:=Lib.hid (fun h=>sp_long (s:=sp) HG.out HNB.out h)
    have HGD:=Lib.hid (fun h=>sp_good (s:=sp) HG.out HNB.out h)
    generalize spBody sp=B at*
    generalize spHead sp=H at*
    have HBB:=Lib.hid hBb
    obtain⟨nB,hnB⟩:∃n,B.length=n:=⟨_,rfl⟩
    obtain⟨nH,hnH⟩:∃n,H.length=n:=⟨_,rfl⟩
    unfold BytesErr at HSG HHD
    rw[hnB] at HSG HHD hBl
    rw[hnH] at HHD hHl
    have HNN:Hid (B.length=nB∧H.length=nH):=Lib.hid ⟨hnB,hnH⟩
    clear hg hbig hdn hd0 hdl hdd hBb hnB hnH
    go_wp2_with fail
    refine Calls.mono (HSG.out _) ?_
    rintro e z2 ⟨oB,cB,rfl,hoB,hb2⟩
    have BX2:=Lib.hid (BX1.out.go hb2)
    have HOB:=Lib.hid hoB
    have HRB:=Lib.hid (hoB.reads HBB.out)
    have HAB:=Lib.hid (fun a (h:oB=some a)=>(hoB.lt h).2)
    clear hoB hb2 BX1 c34 c37 c38 p39
    have q39:partOf z2 w.heap.size 0 39=#[.bool true,.int .u8 (S 0),.int .u8 (S 1),.int .u8 (S 2),.int .u8 (S 3),.int .u8 (S 4),.int .u8 (S 5),.int .u8 (S 6),.int .u8 (S 7),.int .u8 (S 8),.int .u8 (S 9),.int .u8 (S 10),.int .u8 (S 11),.int .u8 (S 12),.int .u8 (S 13),.int .u8 (S 14),.int .u8 (S 15),.bool t,.int .u8 (T 0),.int .u8 (T 1),.int .u8 (T 2),.int .u8 (T 3),.int .u8 (T 4),.int .u8 (T 5),.int .u8 (T 6),.int .u8 (T 7),.int .u8 (T 8),.int .u8 (T 9),.int .u8 (T 10),.int .u8 (T 11),.int .u8 (T 12),.int .u8 (T 13),.int .u8 (T 14),.int .u8 (T 15),.int .u8 p,.int .u16 a,.int .u16 b,.int .u8 f,.int .i64 d]:=BX2.out.part 1 rfl rfl
    go_wp2_with fail
    refine Calls.mono (HHD.out _) ?_
    rintro e z3 ⟨oH,cH,rfl,hoH,hb3⟩
    have BX3:=Lib.hid (BX2.out.go hb3)
    have HOH:=Lib.hid hoH
    have HRB3:=Lib.hid (HRB.out.below hb3)
    have HS3:=Lib.hid hb3.size
    have HZ2:=Lib.hid BX2.out.out.size
    clear hoH hb3 BX2 HRB HOB q39 HAB
    have hs1:IntKind.i64.wrap ((nH:Int)+(nB:Int))=(nH:Int)+(nB:Int):=by rw[IntKind.wrap_i64];omega
    by_cases hlong:2048<nH+nB
    ·have h4:decide ((2048:Int)<(nH:Int)+(nB:Int))=true:=by simpa using(by omega:(2048:Int)<(nH:Int)+(nB:Int))
     obtain⟨e1,e2⟩:=HLG.out (by rw[List.length_append,HNN.out.1,HNN.out.2];exact hlong)
     have HEE:=Lib.hid (And.intro e1 e2)
     clear e1 e2 hlong
     go_wp2_with fail
     go_ret2
     rw[HEE.out.1,HEE.out.2]
     exact noBytes BX3.out.out
    ·have h4:decide ((2048:Int)<(nH:Int)+(nB:Int))=false:=by simpa using(by omega:¬(2048:Int)<(nH:Int)+(nB:Int))
     obtain⟨e1,e2⟩:=HGD.out (by rw[List.length_append,HNN.out.1,HNN.out.2];exact hlong)
     have HEE:=Lib.hid (And.intro e1 e2)
     clear e1 e2
     have HL:Hid (nH+nB≤2048):=Lib.hid (by omega)
     clear hlong hBl hHl
     go_wp2_with (at_builtin;refine Stopped.of ?_)
     refine Stopped.mk ?_
     refine wpList_append_reads _ rfl _ _ 22 rfl 5 z2.heap.size Tryz.underlying22 Bits.infoU8 oH nH cH _ rfl HOH.out oB nB cB B rfl HRB3.out (by have:=HL.out;omega) HS3.out ?_
     intro oa' cap' w' ho' hg' hd'
     have HB':=Lib.hid (Below.appended (BX3.out.out) (HOH.out.mono HZ2.out) (Nat.le_refl _) hg' (Nat.le_trans HZ2.out HS3.out))
     rw[←List.map_append] at ho'
     have HO':=Lib.hid ho'
     clear ho' hg' hd'
     go_wp2_with fail
     go_ret2
     rw[HEE.out.1,HEE.out.2]
     exact⟨oa',cap',by rw[List.length_append,HNN.out.1,HNN.out.2];rfl,by rw[List.length_append,HNN.out.1,HNN.out.2];exact HO'.out.mono HZ2.out,HB'.out⟩
theorem spput_any (s:Sp)(ho:SpOk s)(w:World):Calls Tryz.prog 15 #[.agg (spV s)] w (BytesErr w (spL s) (spErr s)):=by
 obtain⟨⟨s,S,t,T,p,a,b⟩,f,d⟩:=s
 cases s
 ·exact spput_four S t T p a b f d ho w
 ·exact spput_six S t T p a b f d ho w
open Go.RowKit Bits
def OutPost (w:World)(b:Nat)(cs:Array Value)(err:Int):Ending→World→Prop:=fun e w'=>e=.returned (.int .i64 err)∧w'.heap[b]? =some (.cells cs 85 (0,0))∧Below b w w'∧∀i,i≠b→i<w.heap.size→w'.heap[i]? =w.heap[i]?
theorem part_icmp (b:Nat)(s6 d6:Bool)(S D:Nat→Int)(p sp dp ln fl:Int)(fr mo:Bool)(oa:Option Addr)(n cap:Nat)(w:World)(v err:Int)(hp:isIcmp p=true)(hv:0≤v∧v<65536)
 (hx:w.heap[b]? =some (.cells #[.bool s6,.int .u8 (S 0),.int .u8 (S 1),.int .u8 (S 2),.int .u8 (S 3),.int .u8 (S 4),.int .u8 (S 5),.int .u8 (S 6),.int .u8 (S 7),.int .u8 (S 8),.int .u8 (S 9),.int .u8 (S 10),.int .u8 (S 11),.int .u8 (S 12),.int .u8 (S 13),.int .u8 (S 14),.int .u8 (S 15),.bool d6,.int .u8 (D 0),.int .u8 (D 1),.int .u8 (D 2),.int .u8 (D 3),.int .u8 (D 4),.int .u8 (D 5),.int .u8 (D 6),.int .u8 (D 7),.int .u8 (D 8),.int .u8 (D 9),.int .u8 (D 10),.int .u8 (D 11),.int .u8 (D 12),.int .u8 (D 13),.int .u8 (D 14),.int .u8 (D 15),.int .u8 p,.int .u16 sp,.int .u16 dp,.int .i64 ln,.int .u8 fl,.bool fr,.slice oa n cap,.bool mo] 85 (0,0)))
 (hg:∀x:Later w,Calls Tryz.prog 81 #[.slice oa n cap,.int .i64 0,.int .i64 2] x.world (RetAt x.world (.tuple #[.int .u64 v,.int .i64 err]))):
 Calls Tryz.prog 37 #[.pointer (some ⟨b,0,none⟩)] w (OutPost w b #[.bool s6,.int .u8 (S 0),.int .u8 (S 1),.int .u8 (S 2),.int .u8 (S 3),.int .u8 (S 4),.int .u8 (S 5),.int .u8 (S 6),.int .u8 (S 7),.int .u8 (S 8),.int .u8 (S 9),.int .u8 (S 10),.int .u8 (S 11),.int .u8 (S 12),.int .u8 (S 13),.int .u8 (S 14),.int .u8 (S 15),.bool d6,.int .u8 (D 0),.int .u8 (D 1),.int .u8 (D 2),.int .u8 (D 3),.int .u8 (D 4),.int .u8 (D 5),.int .u8 (D 6),.int .u8 (D 7),.int .u8 (D 8),.int .u8 (D 9),.int .u8 (D 10),.int .u8 (D 11),.int .u8 (D 12),.int .u8 (D 13),.int .u8 (D 14),.int .u8 (D 15),.int .u8 p,.int .u16 sp,.int .u16 v,.int .i64 ln,.int .u8 fl,.bool fr,.slice oa n cap,.bool mo] err):=by
 have HX:=Lib.hid hx
 have HG:=Lib.hid (hg ⟨w,Below.refl _ _⟩)
 have hbl:b<w.heap.size:=(Array.getElem?_eq_some_iff.1 hx).1
 have hc40:w.cell? ⟨b,40,none⟩=some (.slice oa n cap):=cell_of_row _ _ 40 _ _ (0,0) hx
 have HI:Hid (∀w',Calls Tryz.prog 36 #[.int .u8 p] w' (RetAt w' (.bool true))):=Lib.hid (fun w'=>by rw[←hp];exact icmp_any p w')
 clear hx hg hp
 go_enter Tryz.func37,Tryz.ntmps37
 go_wp2_with fail
 refine Calls.mono HG.out ?_
 rintro e w1 ⟨rfl,hb⟩
 have HX1:=Lib.hid ((hb.block b hbl).trans HX.out)
 have HB1:=Lib.hid hb
 have hc34:w1.cell? ⟨b,34,none⟩=some (.int .u8 p):=cell_of_row _ _ 34 _ _ (0,0) HX1.out
 clear hb hc40
 go_wp2_with fail
 refine Calls.mono (HI.out w1) ?_
 rintro e w2 ⟨rfl,hb⟩
 have HX2:=Lib.hid ((hb.block b (Array.getElem?_eq_some_iff.1 HX1.out).1).trans HX1.out)
 have HB2:=Lib.hid (Below.via HB1.out hb)
 have hc36:w2.cell? ⟨b,36,none⟩=some (.int .u16 dp):=cell_of_row _ _ 36 _ _ (0,0) HX2.out
 have hf36:=frozen_of_row _ _ 36 _ _ HX2.out
 clear hb hc34
 go_wp2_with fail
 go_ret
 exact⟨rfl,(heap_setCell_same _ b 36 #[.bool s6,.int .u8 (S 0),.int .u8 (S 1),.int .u8 (S 2),.int .u8 (S 3),.int .u8 (S 4),.int .u8 (S 5),.int .u8 (S 6),.int .u8 (S 7),.int .u8 (S 8),.int .u8 (S 9),.int .u8 (S 10),.int .u8 (S 11),.int .u8 (S 12),.int .u8 (S 13),.int .u8 (S 14),.int .u8 (S 15),.bool d6,.int .u8 (D 0),.int .u8 (D 1),.int .u8 (D 2),.int .u8 (D 3),.int .u8 (D 4),.int .u8 (D 5),.int .u8 (D 6),.int .u8 (D 7),.int .u8 (D 8),.int .u8 (D 9),.int .u8 (D 10),.int .u8 (D 11),.int .u8 (D 12),.int .u8 (D 13),.int .u8 (D 14),.int .u8 (D 15),.int .u8 p,.int .u16 sp,.int .u16 dp,.int .i64 ln,.int .u8 fl,.bool fr,.slice oa n cap,.bool mo] _ _ HX2.out).trans rfl,(HB2.out.mono (Nat.le_of_lt hbl)).setCell (Nat.le_refl _) _,fun i hi hl=>(Below.heap_setCell _ _ _ _ hi).trans (HB2.out.block i hl)⟩
open Go.RowKit Bits
theorem part_udp (b:Nat)(s6 d6:Bool)(S D:Nat→Int)(p sp dp ln fl:Int)(fr mo:Bool)(oa:Option Addr)(n cap:Nat)(w:World)(v e0 u err:Int)(hp:isIcmp p=false)(h6:p≠6)(hu:0≤u∧u<65536)(hv:0≤v∧v<65536)
 (hx:w.heap[b]? =some (.cells #[.bool s6,.int .u8 (S 0),.int .u8 (S 1),.int .u8 (S 2),.int .u8 (S 3),.int .u8 (S 4),.int .u8 (S 5),.int .u8 (S 6),.int .u8 (S 7),.int .u8 (S 8),.int .u8 (S 9),.int .u8 (S 10),.int .u8 (S 11),.int .u8 (S 12),.int .u8 (S 13),.int .u8 (S 14),.int .u8 (S 15),.bool d6,.int .u8 (D 0),.int .u8 (D 1),.int .u8 (D 2),.int .u8 (D 3),.int .u8 (D 4),.int .u8 (D 5),.int .u8 (D 6),.int .u8 (D 7),.int .u8 (D 8),.int .u8 (D 9),.int .u8 (D 10),.int .u8 (D 11),.int .u8 (D 12),.int .u8 (D 13),.int .u8 (D 14),.int .u8 (D 15),.int .u8 p,.int .u16 sp,.int .u16 dp,.int .i64 ln,.int .u8 fl,.bool fr,.slice oa n cap,.bool mo] 85 (0,0)))
 (hg:∀x:Later w,Calls Tryz.prog 81 #[.slice oa n cap,.int .i64 0,.int .i64 2] x.world (RetAt x.world (.tuple #[.int .u64 v,.int .i64 e0])))
 (hg2:∀x:Later w,Calls Tryz.prog 81 #[.slice oa n cap,.int .i64 2,.int .i64 2] x.world (RetAt x.world (.tuple #[.int .u64 u,.int .i64 err]))):
 Calls Tryz.prog 37 #[.pointer (some ⟨b,0,none⟩)] w (OutPost w b #[.bool s6,.int .u8 (S 0),.int .u8 (S 1),.int .u8 (S 2),.int .u8 (S 3),.int .u8 (S 4),.int .u8 (S 5),.int .u8 (S 6),.int .u8 (S 7),.int .u8 (S 8),.int .u8 (S 9),.int .u8 (S 10),.int .u8 (S 11),.int .u8 (S 12),.int .u8 (S 13),.int .u8 (S 14),.int .u8 (S 15),.bool d6,.int .u8 (D 0),.int .u8 (D 1),.int .u8 (D 2),.int .u8 (D 3),.int .u8 (D 4),.int .u8 (D 5),.int .u8 (D 6),.int .u8 (D 7),.int .u8 (D 8),.int .u8 (D 9),.int .u8 (D 10),.int .u8 (D 11),.int .u8 (D 12),.int .u8 (D 13),.int .u8 (D 14),.int .u8 (D 15),.int .u8 p,.int .u16 v,.int .u16 u,.int .i64 ln,.int .u8 fl,.bool fr,.slice oa n cap,.bool mo] err):=by
 have HX:=Lib.hid hx
 have HG:=Lib.hid (hg ⟨w,Below.refl _ _⟩)
 have hbl:b<w.heap.size:=(Array.getElem?_eq_some_iff.1 hx).1
 have hc40:w.cell? ⟨b,40,none⟩=some (.slice oa n cap):=cell_of_row _ _ 40 _ _ (0,0) hx
 have HI:Hid (∀w',Calls Tryz.prog 36 #[.int .u8 p] w' (RetAt w' (.bool false))):=Lib.hid (fun w'=>by rw[←hp];exact icmp_any p w')
 have HG2:=Lib.hid hg2
 have h6b:(p==6)=false:=by simpa using h6
 have h6d:decide (p=6)=false:=by simpa using h6
 clear hx hg hp hg2
 go_enter Tryz.func37,Tryz.ntmps37
 go_wp2_with fail
 refine Calls.mono HG.out ?_
 rintro e w1 ⟨rfl,hb⟩
 have HX1:=Lib.hid ((hb.block b hbl).trans HX.out)
 have HB1:=Lib.hid hb
 have hc34:w1.cell? ⟨b,34,none⟩=some (.int .u8 p):=cell_of_row _ _ 34 _ _ (0,0) HX1.out
 clear hb hc40
 go_wp2_with fail
 refine Calls.mono (HI.out w1) ?_
 rintro e w2 ⟨rfl,hb⟩
 have HX2:=Lib.hid ((hb.block b (Array.getElem?_eq_some_iff.1 HX1.out).1).trans HX1.out)
 have HB2:=Lib.hid (Below.via HB1.out hb)
 have hc40:w2.cell? ⟨b,40,none⟩=some (.slice oa n cap):=cell_of_row _ _ 40 _ _ (0,0) HX2.out
 clear hb hc34
 go_wp2_with fail
 refine Calls.mono (HG2.out ⟨w2,HB2.out⟩) ?_
 rintro e w3 ⟨rfl,hb⟩
 have HX3:=Lib.hid ((hb.block b (Array.getElem?_eq_some_iff.1 HX2.out).1).trans HX2.out)
 have HB3:=Lib.hid (Below.via HB2.out hb)
 have hc35:w3.cell? ⟨b,35,none⟩=some (.int .u16 sp):=cell_of_row _ _ 35 _ _ (0,0) HX3.out
 have hc36:w3.cell? ⟨b,36,none⟩=some (.int .u16 dp):=cell_of_row _ _ 36 _ _ (0,0) HX3.out
 have hf35:=frozen_of_row _ _ 35 _ _ HX3.out
 have hf36:=frozen_of_row _ _ 36 _ _ HX3.out
 have hc34:w3.cell? ⟨b,34,none⟩=some (.int .u8 p):=cell_of_row _ _ 34 _ _ (0,0) HX3.out
 clear hb hc40
 go_wp2_with fail
 go_ret
 have q1:(w3.setCell ⟨b,35,none⟩ (.int .u16 v)).heap[b]? =some (.cells #[.bool s6,.int .u8 (S 0),.int .u8 (S 1),.int .u8 (S 2),.int .u8 (S 3),.int .u8 (S 4),.int .u8 (S 5),.int .u8 (S 6),.int .u8 (S 7),.int .u8 (S 8),.int .u8 (S 9),.int .u8 (S 10),.int .u8 (S 11),.int .u8 (S 12),.int .u8 (S 13),.int .u8 (S 14),.int .u8 (S 15),.bool d6,.int .u8 (D 0),.int .u8 (D 1),.int .u8 (D 2),.int .u8 (D 3),.int .u8 (D 4),.int .u8 (D 5),.int .u8 (D 6),.int .u8 (D 7),.int .u8 (D 8),.int .u8 (D 9),.int .u8 (D 10),.int .u8 (D 11),.int .u8 (D 12),.int .u8 (D 13),.int .u8 (D 14),.int .u8 (D 15),.int .u8 p,.int .u16 v,.int .u16 dp,.int .i64 ln,.int .u8 fl,.bool fr,.slice oa n cap,.bool mo] 85 (0,0)):=(heap_setCell_same _ b 35 #[.bool s6,.int .u8 (S 0),.int .u8 (S 1),.int .u8 (S 2),.int .u8 (S 3),.int .u8 (S 4),.int .u8 (S 5),.int .u8 (S 6),.int .u8 (S 7),.int .u8 (S 8),.int .u8 (S 9),.int .u8 (S 10),.int .u8 (S 11),.int .u8 (S 12),.int .u8 (S 13),.int .u8 (S 14),.int .u8 (S 15),.bool d6,.int .u8 (D 0),.int .u8 (D 1),.int .u8 (D 2),.int .u8 (D 3),.int .u8 (D 4),.int .u8 (D 5),.int .u8 (D 6),.int .u8 (D 7),.int .u8 (D 8),.int .u8 (D 9),.int .u8 (D 10),.int .u8 (D 11),.int .u8 (D 12),.int .u8 (D 13),.int .u8 (D 14),.int .u8 (D 15),.int .u8 p,.int .u16 sp,.int .u16 dp,.int .i64 ln,.int .u8 fl,.bool fr,.slice oa n cap,.bool mo] _ _ HX3.out).trans rfl
 exact⟨rfl,(heap_setCell_same _ b 36 #[.bool s6,.int .u8 (S 0),.int .u8 (S 1),.int .u8 (S 2),.int .u8 (S 3),.int .u8 (S 4),.int .u8 (S 5),.int .u8 (S 6),.int .u8 (S 7),.int .u8 (S 8),.int .u8 (S 9),.int .u8 (S 10),.int .u8 (S 11),.int .u8 (S 12),.int .u8 (S 13),.int .u8 (S 14),.int .u8 (S 15),.bool d6,.int .u8 (D 0),.int .u8 (D 1),.int .u8 (D 2),.int .u8 (D 3),.int .u8 (D 4),.int .u8 (D 5),.int .u8 (D 6),.int .u8 (D 7),.int .u8 (D 8),.int .u8 (D 9),.int .u8 (D 10),.int .u8 (D 11),.int .u8 (D 12),.int .u8 (D 13),.int .u8 (D 14),.int .u8 (D 15),.int .u8 p,.int .u16 v,.int .u16 dp,.int .i64 ln,.int .u8 fl,.bool fr,.slice oa n cap,.bool mo] _ _ q1).trans rfl,((HB3.out.mono (Nat.le_of_lt hbl)).setCell (Nat.le_refl _) _).setCell (Nat.le_refl _) _,fun i hi hl=>(Below.heap_setCell _ _ _ _ hi).trans ((Below.heap_setCell _ _ _ _ hi).trans (HB3.out.block i hl))⟩
open Go.RowKit Bits
theorem part_tcp_short (b:Nat)(s6 d6:Bool)(S D:Nat→Int)(sp dp ln fl:Int)(fr mo:Bool)(oa:Option Addr)(n cap:Nat)(w:World)(v e0 u err:Int)(h14:n<14)(hu:0≤u∧u<65536)(hv:0≤v∧v<65536)
 (hx:w.heap[b]? =some (.cells #[.bool s6,.int .u8 (S 0),.int .u8 (S 1),.int .u8 (S 2),.int .u8 (S 3),.int .u8 (S 4),.int .u8 (S 5),.int .u8 (S 6),.int .u8 (S 7),.int .u8 (S 8),.int .u8 (S 9),.int .u8 (S 10),.int .u8 (S 11),.int .u8 (S 12),.int .u8 (S 13),.int .u8 (S 14),.int .u8 (S 15),.bool d6,.int .u8 (D 0),.int .u8 (D 1),.int .u8 (D 2),.int .u8 (D 3),.int .u8 (D 4),.int .u8 (D 5),.int .u8 (D 6),.int .u8 (D 7),.int .u8 (D 8),.int .u8 (D 9),.int .u8 (D 10),.int .u8 (D 11),.int .u8 (D 12),.int .u8 (D 13),.int .u8 (D 14),.int .u8 (D 15),.int .u8 6,.int .u16 sp,.int .u16 dp,.int .i64 ln,.int .u8 fl,.bool fr,.slice oa n cap,.bool mo] 85 (0,0)))
 (hg:∀x:Later w,Calls Tryz.prog 81 #[.slice oa n cap,.int .i64 0,.int .i64 2] x.world (RetAt x.world (.tuple #[.int .u64 v,.int .i64 e0])))
 (hg2:∀x:Later w,Calls Tryz.prog 81 #[.slice oa n cap,.int .i64 2,.int .i64 2] x.world (RetAt x.world (.tuple #[.int .u64 u,.int .i64 err]))):
 Calls Tryz.prog 37 #[.pointer (some ⟨b,0,none⟩)] w (OutPost w b #[.bool s6,.int .u8 (S 0),.int .u8 (S 1),.int .u8 (S 2),.int .u8 (S 3),.int .u8 (S 4),.int .u8 (S 5),.int .u8 (S 6),.int .u8 (S 7),.int .u8 (S 8),.int .u8 (S 9),.int .u8 (S 10),.int .u8 (S 11),.int .u8 (S 12),.int .u8 (S 13),.int .u8 (S 14),.int .u8 (S 15),.bool d6,.int .u8 (D 0),.int .u8 (D 1),.int .u8 (D 2),.int .u8 (D 3),.int .u8 (D 4),.int .u8 (D 5),.int .u8 (D 6),.int .u8 (D 7),.int .u8 (D 8),.int .u8 (D 9),.int .u8 (D 10),.int .u8 (D 11),.int .u8 (D 12),.int .u8 (D 13),.int .u8 (D 14),.int .u8 (D 15),.int .u8 6,.int .u16 v,.int .u16 u,.int .i64 ln,.int .u8 fl,.bool fr,.slice oa n cap,.bool mo] err):=by
 have HX:=Lib.hid hx
 have HG:=Lib.hid (hg ⟨w,Below.refl _ _⟩)
 have hbl:b<w.heap.size:=(Array.getElem?_eq_some_iff.1 hx).1
 have hc40:w.cell? ⟨b,40,none⟩=some (.slice oa n cap):=cell_of_row _ _ 40 _ _ (0,0) hx
 have HI:Hid (∀w',Calls Tryz.prog 36 #[.int .u8 6] w' (RetAt w' (.bool false))):=Lib.hid (fun w'=>icmp_any 6 w')
 have HG2:=Lib.hid hg2
 have hn14:decide ((n:Int)≥14)=false:=by simp;omega
 clear hx hg hg2
 go_enter Tryz.func37,Tryz.ntmps37
 go_wp2_with fail
 refine Calls.mono HG.out ?_
 rintro e w1 ⟨rfl,hb⟩
 have HX1:=Lib.hid ((hb.block b hbl).trans HX.out)
 have HB1:=Lib.hid hb
 have hc34:w1.cell? ⟨b,34,none⟩=some (.int .u8 6):=cell_of_row _ _ 34 _ _ (0,0) HX1.out
 clear hb hc40
 go_wp2_with fail
 refine Calls.mono (HI.out w1) ?_
 rintro e w2 ⟨rfl,hb⟩
 have HX2:=Lib.hid ((hb.block b (Array.getElem?_eq_some_iff.1 HX1.out).1).trans HX1.out)
 have HB2:=Lib.hid (Below.via HB1.out hb)
 have hc40:w2.cell? ⟨b,40,none⟩=some (.slice oa n cap):=cell_of_row _ _ 40 _ _ (0,0) HX2.out
 clear hb hc34
 go_wp2_with fail
 refine Calls.mono (HG2.out ⟨w2,HB2.out⟩) ?_
 rintro e w3 ⟨rfl,hb⟩
 have HX3:=Lib.hid ((hb.block b (Array.getElem?_eq_some_iff.1 HX2.out).1).trans HX2.out)
 have HB3:=Lib.hid (Below.via HB2.out hb)
 have hc35:w3.cell? ⟨b,35,none⟩=some (.int .u16 sp):=cell_of_row _ _ 35 _ _ (0,0) HX3.out
 have hc36:w3.cell? ⟨b,36,none⟩=some (.int .u16 dp):=cell_of_row _ _ 36 _ _ (0,0) HX3.out
 have hf35:=frozen_of_row _ _ 35 _ _ HX3.out
 have hf36:=frozen_of_row _ _ 36 _ _ HX3.out
 have hc40:w3.cell? ⟨b,40,none⟩=some (.slice oa n cap):=cell_of_row _ _ 40 _ _ (0,0) HX3.out
 have hc34:w3.cell? ⟨b,34,none⟩=some (.int .u8 6):=cell_of_row _ _ 34 _ _ (0,0) HX3.out
 clear hb
 go_wp2_with fail
 go_ret
 have q1:(w3.setCell ⟨b,35,none⟩ (.int .u16 v)).heap[b]? =some (.cells #[.bool s6,.int .u8 (S 0),.int .u8 (S 1),.int .u8 (S 2),.int .u8 (S 3),.int .u8 (S 4),.int .u8 (S 5),.int .u8 (S 6),.int .u8 (S 7),.int .u8 (S 8),.int .u8 (S 9),.int .u8 (S 10),.int .u8 (S 11),.int .u8 (S 12),.int .u8 (S 13),.int .u8 (S 14),.int .u8 (S 15),.bool d6,.int .u8 (D 0),.int .u8 (D 1),.int .u8 (D 2),.int .u8 (D 3),.int .u8 (D 4),.int .u8 (D 5),.int .u8 (D 6),.int .u8 (D 7),.int .u8 (D 8),.int .u8 (D 9),.int .u8 (D 10),.int .u8 (D 11),.int .u8 (D 12),.int .u8 (D 13),.int .u8 (D 14),.int .u8 (D 15),.int .u8 6,.int .u16 v,.int .u16 dp,.int .i64 ln,.int .u8 fl,.bool fr,.slice oa n cap,.bool mo] 85 (0,0)):=(heap_setCell_same _ b 35 #[.bool s6,.int .u8 (S 0),.int .u8 (S 1),.int .u8 (S 2),.int .u8 (S 3),.int .u8 (S 4),.int .u8 (S 5),.int .u8 (S 6),.int .u8 (S 7),.int .u8 (S 8),.int .u8 (S 9),.int .u8 (S 10),.int .u8 (S 11),.int .u8 (S 12),.int .u8 (S 13),.int .u8 (S 14),.int .u8 (S 15),.bool d6,.int .u8 (D 0),.int .u8 (D 1),.int .u8 (D 2),.int .u8 (D 3),.int .u8 (D 4),.int .u8 (D 5),.int .u8 (D 6),.int .u8 (D 7),.int .u8 (D 8),.int .u8 (D 9),.int .u8 (D 10),.int .u8 (D 11),.int .u8 (D 12),.int .u8 (D 13),.int .u8 (D 14),.int .u8 (D 15),.int .u8 6,.int .u16 sp,.int .u16 dp,.int .i64 ln,.int .u8 fl,.bool fr,.slice oa n cap,.bool mo] _ _ HX3.out).trans rfl
 exact⟨rfl,(heap_setCell_same _ b 36 #[.bool s6,.int .u8 (S 0),.int .u8 (S 1),.int .u8 (S 2),.int .u8 (S 3),.int .u8 (S 4),.int .u8 (S 5),.int .u8 (S 6),.int .u8 (S 7),.int .u8 (S 8),.int .u8 (S 9),.int .u8 (S 10),.int .u8 (S 11),.int .u8 (S 12),.int .u8 (S 13),.int .u8 (S 14),.int .u8 (S 15),.bool d6,.int .u8 (D 0),.int .u8 (D 1),.int .u8 (D 2),.int .u8 (D 3),.int .u8 (D 4),.int .u8 (D 5),.int .u8 (D 6),.int .u8 (D 7),.int .u8 (D 8),.int .u8 (D 9),.int .u8 (D 10),.int .u8 (D 11),.int .u8 (D 12),.int .u8 (D 13),.int .u8 (D 14),.int .u8 (D 15),.int .u8 6,.int .u16 v,.int .u16 dp,.int .i64 ln,.int .u8 fl,.bool fr,.slice oa n cap,.bool mo] _ _ q1).trans rfl,((HB3.out.mono (Nat.le_of_lt hbl)).setCell (Nat.le_refl _) _).setCell (Nat.le_refl _) _,fun i hi hl=>(Below.heap_setCell _ _ _ _ hi).trans ((Below.heap_setCell _ _ _ _ hi).trans (HB3.out.block i hl))⟩
open Go.RowKit Bits
theorem part_tcp_long (b:Nat)(s6 d6:Bool)(S D:Nat→Int)(sp dp ln fl:Int)(fr mo:Bool)(g off n cap:Nat)(w:World)(v e0 u err:Int)(h14:14≤n)(fb:Int)(hfb:w.cell? ⟨g,off+13,none⟩=some (.int .u8 fb))(hgb:g≠b)(hgl:g<w.heap.size)(hu:0≤u∧u<65536)(hv:0≤v∧v<65536)
 (hx:w.heap[b]? =some (.cells #[.bool s6,.int .u8 (S 0),.int .u8 (S 1),.int .u8 (S 2),.int .u8 (S 3),.int .u8 (S 4),.int .u8 (S 5),.int .u8 (S 6),.int .u8 (S 7),.int .u8 (S 8),.int .u8 (S 9),.int .u8 (S 10),.int .u8 (S 11),.int .u8 (S 12),.int .u8 (S 13),.int .u8 (S 14),.int .u8 (S 15),.bool d6,.int .u8 (D 0),.int .u8 (D 1),.int .u8 (D 2),.int .u8 (D 3),.int .u8 (D 4),.int .u8 (D 5),.int .u8 (D 6),.int .u8 (D 7),.int .u8 (D 8),.int .u8 (D 9),.int .u8 (D 10),.int .u8 (D 11),.int .u8 (D 12),.int .u8 (D 13),.int .u8 (D 14),.int .u8 (D 15),.int .u8 6,.int .u16 sp,.int .u16 dp,.int .i64 ln,.int .u8 fl,.bool fr,.slice (some ⟨g,off,none⟩) n cap,.bool mo] 85 (0,0)))
 (hg:∀x:Later w,Calls Tryz.prog 81 #[.slice (some ⟨g,off,none⟩) n cap,.int .i64 0,.int .i64 2] x.world (RetAt x.world (.tuple #[.int .u64 v,.int .i64 e0])))
 (hg2:∀x:Later w,Calls Tryz.prog 81 #[.slice (some ⟨g,off,none⟩) n cap,.int .i64 2,.int .i64 2] x.world (RetAt x.world (.tuple #[.int .u64 u,.int .i64 err]))):
 Calls Tryz.prog 37 #[.pointer (some ⟨b,0,none⟩)] w (OutPost w b #[.bool s6,.int .u8 (S 0),.int .u8 (S 1),.int .u8 (S 2),.int .u8 (S 3),.int .u8 (S 4),.int .u8 (S 5),.int .u8 (S 6),.int .u8 (S 7),.int .u8 (S 8),.int .u8 (S 9),.int .u8 (S 10),.int .u8 (S 11),.int .u8 (S 12),.int .u8 (S 13),.int .u8 (S 14),.int .u8 (S 15),.bool d6,.int .u8 (D 0),.int .u8 (D 1),.int .u8 (D 2),.int .u8 (D 3),.int .u8 (D 4),.int .u8 (D 5),.int .u8 (D 6),.int .u8 (D 7),.int .u8 (D 8),.int .u8 (D 9),.int .u8 (D 10),.int .u8 (D 11),.int .u8 (D 12),.int .u8 (D 13),.int .u8 (D 14),.int .u8 (D 15),.int .u8 6,.int .u16 v,.int .u16 u,.int .i64 ln,.int .u8 fb,.bool fr,.slice (some ⟨g,off,none⟩) n cap,.bool mo] err):=by
 have HX:=Lib.hid hx
 have HG:=Lib.hid (hg ⟨w,Below.refl _ _⟩)
 have hbl:b<w.heap.size:=(Array.getElem?_eq_some_iff.1 hx).1
 have hc40:w.cell? ⟨b,40,none⟩=some (.slice (some ⟨g,off,none⟩) n cap):=cell_of_row _ _ 40 _ _ (0,0) hx
 have HI:Hid (∀w',Calls Tryz.prog 36 #[.int .u8 6] w' (RetAt w' (.bool false))):=Lib.hid (fun w'=>icmp_any 6 w')
 have HG2:=Lib.hid hg2
 have HFB:=Lib.hid hfb
 have hn14:decide ((n:Int)≥14)=true:=by simp;omega
 clear hx hg hg2 hfb
 go_enter Tryz.func37,Tryz.ntmps37
 go_wp2_with fail
 refine Calls.mono HG.out ?_
 rintro e w1 ⟨rfl,hb⟩
 have HX1:=Lib.hid ((hb.block b hbl).trans HX.out)
 have HB1:=Lib.hid hb
 have hc34:w1.cell? ⟨b,34,none⟩=some (.int .u8 6):=cell_of_row _ _ 34 _ _ (0,0) HX1.out
 clear hb hc40
 go_wp2_with fail
 refine Calls.mono (HI.out w1) ?_
 rintro e w2 ⟨rfl,hb⟩
 have HX2:=Lib.hid ((hb.block b (Array.getElem?_eq_some_iff.1 HX1.out).1).trans HX1.out)
 have HB2:=Lib.hid (Below.via HB1.out hb)
 have hc40:w2.cell? ⟨b,40,none⟩=some (.slice (some ⟨g,off,none⟩) n cap):=cell_of_row _ _ 40 _ _ (0,0) HX2.out
 clear hb hc34
 go_wp2_with fail
 refine Calls.mono (HG2.out ⟨w2,HB2.out⟩) ?_
 rintro e w3 ⟨rfl,hb⟩
 have HX3:=Lib.hid ((hb.block b (Array.getElem?_eq_some_iff.1 HX2.out).1).trans HX2.out)
 have HB3:=Lib.hid (Below.via HB2.out hb)
 have hc35:w3.cell? ⟨b,35,none⟩=some (.int .u16 sp):=cell_of_row _ _ 35 _ _ (0,0) HX3.out
 have hc36:w3.cell? ⟨b,36,none⟩=some (.int .u16 dp):=cell_of_row _ _ 36 _ _ (0,0) HX3.out
 have hf35:=frozen_of_row _ _ 35 _ _ HX3.out
 have hf36:=frozen_of_row _ _ 36 _ _ HX3.out
 have hc40:w3.cell? ⟨b,40,none⟩=some (.slice (some ⟨g,off,none⟩) n cap):=cell_of_row _ _ 40 _ _ (0,0) HX3.out
 have hc34:w3.cell? ⟨b,34,none⟩=some (.int .u8 6):=cell_of_row _ _ 34 _ _ (0,0) HX3.out
 have hc38:w3.cell? ⟨b,38,none⟩=some (.int .u8 fl):=cell_of_row _ _ 38 _ _ (0,0) HX3.out
 have hf38:=frozen_of_row _ _ 38 _ _ HX3.out
 have hcg:w3.cell? ⟨g,off+13,none⟩=some (.int .u8 fb):=(below_cell HB3.out hgl _ rfl).trans HFB.out
 clear hb
 go_wp2_with fail
 go_ret
 have q1:(w3.setCell ⟨b,35,none⟩ (.int .u16 v)).heap[b]? =some (.cells #[.bool s6,.int .u8 (S 0),.int .u8 (S 1),.int .u8 (S 2),.int .u8 (S 3),.int .u8 (S 4),.int .u8 (S 5),.int .u8 (S 6),.int .u8 (S 7),.int .u8 (S 8),.int .u8 (S 9),.int .u8 (S 10),.int .u8 (S 11),.int .u8 (S 12),.int .u8 (S 13),.int .u8 (S 14),.int .u8 (S 15),.bool d6,.int .u8 (D 0),.int .u8 (D 1),.int .u8 (D 2),.int .u8 (D 3),.int .u8 (D 4),.int .u8 (D 5),.int .u8 (D 6),.int .u8 (D 7),.int .u8 (D 8),.int .u8 (D 9),.int .u8 (D 10),.int .u8 (D 11),.int .u8 (D 12),.int .u8 (D 13),.int .u8 (D 14),.int .u8 (D 15),.int .u8 6,.int .u16 v,.int .u16 dp,.int .i64 ln,.int .u8 fl,.bool fr,.slice (some ⟨g,off,none⟩) n cap,.bool mo] 85 (0,0)):=(heap_setCell_same _ b 35 #[.bool s6,.int .u8 (S 0),.int .u8 (S 1),.int .u8 (S 2),.int .u8 (S 3),.int .u8 (S 4),.int .u8 (S 5),.int .u8 (S 6),.int .u8 (S 7),.int .u8 (S 8),.int .u8 (S 9),.int .u8 (S 10),.int .u8 (S 11),.int .u8 (S 12),.int .u8 (S 13),.int .u8 (S 14),.int .u8 (S 15),.bool d6,.int .u8 (D 0),.int .u8 (D 1),.int .u8 (D 2),.int .u8 (D 3),.int .u8 (D 4),.int .u8 (D 5),.int .u8 (D 6),.int .u8 (D 7),.int .u8 (D 8),.int .u8 (D 9),.int .u8 (D 10),.int .u8 (D 11),.int .u8 (D 12),.int .u8 (D 13),.int .u8 (D 14),.int .u8 (D 15),.int .u8 6,.int .u16 sp,.int .u16 dp,.int .i64 ln,.int .u8 fl,.bool fr,.slice (some ⟨g,off,none⟩) n cap,.bool mo] _ _ HX3.out).trans rfl
 have q2:((w3.setCell ⟨b,35,none⟩ (.int .u16 v)).setCell ⟨b,36,none⟩ (.int .u16 u)).heap[b]? =some (.cells #[.bool s6,.int .u8 (S 0),.int .u8 (S 1),.int .u8 (S 2),.int .u8 (S 3),.int .u8 (S 4),.int .u8 (S 5),.int .u8 (S 6),.int .u8 (S 7),.int .u8 (S 8),.int .u8 (S 9),.int .u8 (S 10),.int .u8 (S 11),.int .u8 (S 12),.int .u8 (S 13),.int .u8 (S 14),.int .u8 (S 15),.bool d6,.int .u8 (D 0),.int .u8 (D 1),.int .u8 (D 2),.int .u8 (D 3),.int .u8 (D 4),.int .u8 (D 5),.int .u8 (D 6),.int .u8 (D 7),.int .u8 (D 8),.int .u8 (D 9),.int .u8 (D 10),.int .u8 (D 11),.int .u8 (D 12),.int .u8 (D 13),.int .u8 (D 14),.int .u8 (D 15),.int .u8 6,.int .u16 v,.int .u16 u,.int .i64 ln,.int .u8 fl,.bool fr,.slice (some ⟨g,off,none⟩) n cap,.bool mo] 85 (0,0)):=(heap_setCell_same _ b 36 #[.bool s6,.int .u8 (S 0),.int .u8 (S 1),.int .u8 (S 2),.int .u8 (S 3),.int .u8 (S 4),.int .u8 (S 5),.int .u8 (S 6),.int .u8 (S 7),.int .u8 (S 8),.int .u8 (S 9),.int .u8 (S 10),.int .u8 (S 11),.int .u8 (S 12),.int .u8 (S 13),.int .u8 (S 14),.int .u8 (S 15),.bool d6,.int .u8 (D 0),.int .u8 (D 1),.int .u8 (D 2),.int .u8 (D 3),.int .u8 (D 4),.int .u8 (D 5),.int .u8 (D 6),.int .u8 (D 7),.int .u8 (D 8),.int .u8 (D 9),.int .u8 (D 10),.int .u8 (D 11),.int .u8 (D 12),.int .u8 (D 13),.int .u8 (D 14),.int .u8 (D 15),.int .u8 6,.int .u16 v,.int .u16 dp,.int .i64 ln,.int .u8 fl,.bool fr,.slice (some ⟨g,off,none⟩) n cap,.bool mo] _ _ q1).trans rfl
 exact⟨rfl,(heap_setCell_same _ b 38 #[.bool s6,.int .u8 (S 0),.int .u8 (S 1),.int .u8 (S 2),.int .u8 (S 3),.int .u8 (S 4),.int .u8 (S 5),.int .u8 (S 6),.int .u8 (S 7),.int .u8 (S 8),.int .u8 (S 9),.int .u8 (S 10),.int .u8 (S 11),.int .u8 (S 12),.int .u8 (S 13),.int .u8 (S 14),.int .u8 (S 15),.bool d6,.int .u8 (D 0),.int .u8 (D 1),.int .u8 (D 2),.int .u8 (D 3),.int .u8 (D 4),.int .u8 (D 5),.int .u8 (D 6),.int .u8 (D 7),.int .u8 (D 8),.int .u8 (D 9),.int .u8 (D 10),.int .u8 (D 11),.int .u8 (D 12),.int .u8 (D 13),.int .u8 (D 14),.int .u8 (D 15),.int .u8 6,.int .u16 v,.int .u16 u,.int .i64 ln,.int .u8 fl,.bool fr,.slice (some ⟨g,off,none⟩) n cap,.bool mo] _ _ q2).trans rfl,(((HB3.out.mono (Nat.le_of_lt hbl)).setCell (Nat.le_refl _) _).setCell (Nat.le_refl _) _).setCell (Nat.le_refl _) _,fun i hi hl=>(Below.heap_setCell _ _ _ _ hi).trans ((Below.heap_setCell _ _ _ _ hi).trans ((Below.heap_setCell _ _ _ _ hi).trans (HB3.out.block i hl)))⟩
end
end Go.Proofs.YtkgjbipfhhjlpaaGreatDoor
