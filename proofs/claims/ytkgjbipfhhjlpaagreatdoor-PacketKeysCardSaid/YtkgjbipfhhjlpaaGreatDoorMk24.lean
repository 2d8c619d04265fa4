import Derived.Test.YtkgjbipfhhjlpaaGreatDoorMk23
set_option linter.unusedVariables false
set_option linter.unusedSimpArgs false
set_option maxRecDepth 100000
set_option maxHeartbeats 32000000
namespace Go.Proofs.YtkgjbipfhhjlpaaGreatDoor
section
open Go.RowKit
theorem litU8 (l:List Int)(h:(l.all fun v=>decide (0≤v∧v<256))=true):U8 fun i=>l.getD i 0:=fun i=>
 isBytes_getD (fun v hv=>of_decide_eq_true (List.all_eq_true.1 h v hv)) i
theorem wkR0 (w:World)(h:Env w):Calls Tryz.prog 22 #[.string ⟨#[54,32,49,48,46,48,46,48,46,49,32,53,32,49,48,46,48,46,48,46,50,32,56,48]⟩] w (RetAt w (.tuple #[.agg #[.bool false,.int .u8 10,.int .u8 0,.int .u8 0,.int .u8 1,.int .u8 0,.int .u8 0,.int .u8 0,.int .u8 0,.int .u8 0,.int .u8 0,.int .u8 0,.int .u8 0,.int .u8 0,.int .u8 0,.int .u8 0,.int .u8 0,.bool false,.int .u8 10,.int .u8 0,.int .u8 0,.int .u8 2,.int .u8 0,.int .u8 0,.int .u8 0,.int .u8 0,.int .u8 0,.int .u8 0,.int .u8 0,.int .u8 0,.int .u8 0,.int .u8 0,.int .u8 0,.int .u8 0,.int .u8 6,.int .u16 5,.int .u16 80],.int .i64 0])):=by
 have h1:=kread_any [54,32,49,48,46,48,46,48,46,49,32,53,32,49,48,46,48,46,48,46,50,32,56,48] w (by decide) h
 rw[show kyReadV (kyRead [54,32,49,48,46,48,46,48,46,49,32,53,32,49,48,46,48,46,48,46,50,32,56,48])=.tuple #[.agg #[.bool false,.int .u8 10,.int .u8 0,.int .u8 0,.int .u8 1,.int .u8 0,.int .u8 0,.int .u8 0,.int .u8 0,.int .u8 0,.int .u8 0,.int .u8 0,.int .u8 0,.int .u8 0,.int .u8 0,.int .u8 0,.int .u8 0,.bool false,.int .u8 10,.int .u8 0,.int .u8 0,.int .u8 2,.int .u8 0,.int .u8 0,.int .u8 0,.int .u8 0,.int .u8 0,.int .u8 0,.int .u8 0,.int .u8 0,.int .u8 0,.int .u8 0,.int .u8 0,.int .u8 0,.int .u8 6,.int .u16 5,.int .u16 80],.int .i64 0] by kernel_rfl] at h1
 exact h1
theorem wkR1 (w:World)(h:Env w):Calls Tryz.prog 22 #[.string ⟨#[49,32,49,48,46,48,46,48,46,49,32,48,32,49,48,46,48,46,48,46,50,32,50,48,52,56]⟩] w (RetAt w (.tuple #[.agg #[.bool false,.int .u8 10,.int .u8 0,.int .u8 0,.int .u8 1,.int .u8 0,.int .u8 0,.int .u8 0,.int .u8 0,.int .u8 0,.int .u8 0,.int .u8 0,.int .u8 0,.int .u8 0,.int .u8 0,.int .u8 0,.int .u8 0,.bool false,.int .u8 10,.int .u8 0,.int .u8 0,.int .u8 2,.int .u8 0,.int .u8 0,.int .u8 0,.int .u8 0,.int .u8 0,.int .u8 0,.int .u8 0,.int .u8 0,.int .u8 0,.int .u8 0,.int .u8 0,.int .u8 0,.int .u8 1,.int .u16 0,.int .u16 2048],.int .i64 0])):=by
 have h1:=kread_any [49,32,49,48,46,48,46,48,46,49,32,48,32,49,48,46,48,46,48,46,50,32,50,48,52,56] w (by decide) h
 rw[show kyReadV (kyRead [49,32,49,48,46,48,46,48,46,49,32,48,32,49,48,46,48,46,48,46,50,32,50,48,52,56])=.tuple #[.agg #[.bool false,.int .u8 10,.int .u8 0,.int .u8 0,.int .u8 1,.int .u8 0,.int .u8 0,.int .u8 0,.int .u8 0,.int .u8 0,.int .u8 0,.int .u8 0,.int .u8 0,.int .u8 0,.int .u8 0,.int .u8 0,.int .u8 0,.bool false,.int .u8 10,.int .u8 0,.int .u8 0,.int .u8 2,.int .u8 0,.int .u8 0,.int .u8 0,.int .u8 0,.int .u8 0,.int .u8 0,.int .u8 0,.int .u8 0,.int .u8 0,.int .u8 0,.int .u8 0,.int .u8 0,.int .u8 1,.int .u16 0,.int .u16 2048],.int .i64 0] by kernel_rfl] at h1
 exact h1
theorem wkR2 (w:World)(h:Env w):Calls Tryz.prog 22 #[.string ⟨#[49,55,32,58,58,49,32,57,32,58,58,50,32,53,51]⟩] w (RetAt w (.tuple #[.agg #[.bool true,.int .u8 0,.int .u8 0,.int .u8 0,.int .u8 0,.int .u8 0,.int .u8 0,.int .u8 0,.int .u8 0,.int .u8 0,.int .u8 0,.int .u8 0,.int .u8 0,.int .u8 0,.int .u8 0,.int .u8 0,.int .u8 1,.bool true,.int .u8 0,.int .u8 0,.int .u8 0,.int .u8 0,.int .u8 0,.int .u8 0,.int .u8 0,.int .u8 0,.int .u8 0,.int .u8 0,.int .u8 0,.int .u8 0,.int .u8 0,.int .u8 0,.int .u8 0,.int .u8 2,.int .u8 17,.int .u16 9,.int .u16 53],.int .i64 0])):=by
 have h1:=kread_any [49,55,32,58,58,49,32,57,32,58,58,50,32,53,51] w (by decide) h
 rw[show kyReadV (kyRead [49,55,32,58,58,49,32,57,32,58,58,50,32,53,51])=.tuple #[.agg #[.bool true,.int .u8 0,.int .u8 0,.int .u8 0,.int .u8 0,.int .u8 0,.int .u8 0,.int .u8 0,.int .u8 0,.int .u8 0,.int .u8 0,.int .u8 0,.int .u8 0,.int .u8 0,.int .u8 0,.int .u8 0,.int .u8 1,.bool true,.int .u8 0,.int .u8 0,.int .u8 0,.int .u8 0,.int .u8 0,.int .u8 0,.int .u8 0,.int .u8 0,.int .u8 0,.int .u8 0,.int .u8 0,.int .u8 0,.int .u8 0,.int .u8 0,.int .u8 0,.int .u8 2,.int .u8 17,.int .u16 9,.int .u16 53],.int .i64 0] by kernel_rfl] at h1
 exact h1
theorem wkR3 (w:World)(h:Env w):Calls Tryz.prog 22 #[.string ⟨#[54,32,49,48,46,48,46,48,46,49,32,48,53,32,49,48,46,48,46,48,46,50,32,56,48]⟩] w (RetAt w (.tuple #[.agg #[.bool false,.int .u8 0,.int .u8 0,.int .u8 0,.int .u8 0,.int .u8 0,.int .u8 0,.int .u8 0,.int .u8 0,.int .u8 0,.int .u8 0,.int .u8 0,.int .u8 0,.int .u8 0,.int .u8 0,.int .u8 0,.int .u8 0,.bool false,.int .u8 0,.int .u8 0,.int .u8 0,.int .u8 0,.int .u8 0,.int .u8 0,.int .u8 0,.int .u8 0,.int .u8 0,.int .u8 0,.int .u8 0,.int .u8 0,.int .u8 0,.int .u8 0,.int .u8 0,.int .u8 0,.int .u8 0,.int .u16 0,.int .u16 0],.int .i64 40])):=by
 have h1:=kread_any [54,32,49,48,46,48,46,48,46,49,32,48,53,32,49,48,46,48,46,48,46,50,32,56,48] w (by decide) h
 rw[show kyReadV (kyRead [54,32,49,48,46,48,46,48,46,49,32,48,53,32,49,48,46,48,46,48,46,50,32,56,48])=.tuple #[.agg #[.bool false,.int .u8 0,.int .u8 0,.int .u8 0,.int .u8 0,.int .u8 0,.int .u8 0,.int .u8 0,.int .u8 0,.int .u8 0,.int .u8 0,.int .u8 0,.int .u8 0,.int .u8 0,.int .u8 0,.int .u8 0,.int .u8 0,.bool false,.int .u8 0,.int .u8 0,.int .u8 0,.int .u8 0,.int .u8 0,.int .u8 0,.int .u8 0,.int .u8 0,.int .u8 0,.int .u8 0,.int .u8 0,.int .u8 0,.int .u8 0,.int .u8 0,.int .u8 0,.int .u8 0,.int .u8 0,.int .u16 0,.int .u16 0],.int .i64 40] by kernel_rfl] at h1
 exact h1
theorem wkR4 (w:World)(h:Env w):Calls Tryz.prog 22 #[.string ⟨#[49,32,58,58,49,32,49,32,58,58,49,32,48]⟩] w (RetAt w (.tuple #[.agg #[.bool false,.int .u8 0,.int .u8 0,.int .u8 0,.int .u8 0,.int .u8 0,.int .u8 0,.int .u8 0,.int .u8 0,.int .u8 0,.int .u8 0,.int .u8 0,.int .u8 0,.int .u8 0,.int .u8 0,.int .u8 0,.int .u8 0,.bool false,.int .u8 0,.int .u8 0,.int .u8 0,.int .u8 0,.int .u8 0,.int .u8 0,.int .u8 0,.int .u8 0,.int .u8 0,.int .u8 0,.int .u8 0,.int .u8 0,.int .u8 0,.int .u8 0,.int .u8 0,.int .u8 0,.int .u8 0,.int .u16 0,.int .u16 0],.int .i64 40])):=by
 have h1:=kread_any [49,32,58,58,49,32,49,32,58,58,49,32,48] w (by decide) h
 rw[show kyReadV (kyRead [49,32,58,58,49,32,49,32,58,58,49,32,48])=.tuple #[.agg #[.bool false,.int .u8 0,.int .u8 0,.int .u8 0,.int .u8 0,.int .u8 0,.int .u8 0,.int .u8 0,.int .u8 0,.int .u8 0,.int .u8 0,.int .u8 0,.int .u8 0,.int .u8 0,.int .u8 0,.int .u8 0,.int .u8 0,.bool false,.int .u8 0,.int .u8 0,.int .u8 0,.int .u8 0,.int .u8 0,.int .u8 0,.int .u8 0,.int .u8 0,.int .u8 0,.int .u8 0,.int .u8 0,.int .u8 0,.int .u8 0,.int .u8 0,.int .u8 0,.int .u8 0,.int .u8 0,.int .u16 0,.int .u16 0],.int .i64 40] by kernel_rfl] at h1
 exact h1
def wkS0:Sp:=(⟨⟨false,(fun i=>([10,0,0,1]:List Int).getD i 0),false,(fun i=>([10,0,0,2]:List Int).getD i 0),6,5,80⟩,2,0⟩:Sp)
theorem wkO0:SpOk wkS0:=⟨⟨litU8 _ (by decide),litU8 _ (by decide),by decide,by decide,by decide⟩,by decide,by decide⟩
theorem wkE0:spErr wkS0=0:=by decide+kernel
theorem wkN0:(spL wkS0).length=40:=by decide+kernel
theorem wkP0 (w:World):Calls Tryz.prog 15 #[.agg #[.bool false,.int .u8 10,.int .u8 0,.int .u8 0,.int .u8 1,.int .u8 0,.int .u8 0,.int .u8 0,.int .u8 0,.int .u8 0,.int .u8 0,.int .u8 0,.int .u8 0,.int .u8 0,.int .u8 0,.int .u8 0,.int .u8 0,.bool false,.int .u8 10,.int .u8 0,.int .u8 0,.int .u8 2,.int .u8 0,.int .u8 0,.int .u8 0,.int .u8 0,.int .u8 0,.int .u8 0,.int .u8 0,.int .u8 0,.int .u8 0,.int .u8 0,.int .u8 0,.int .u8 0,.int .u8 6,.int .u16 5,.int .u16 80,.int .u8 2,.int .i64 0]] w (BytesErr w (spL wkS0) 0):=by
 have h:=spput_any wkS0 wkO0 w
 rw[wkE0] at h
 exact h
def wkS1:Sp:=(⟨⟨false,(fun i=>([10,0,0,1]:List Int).getD i 0),false,(fun i=>([10,0,0,2]:List Int).getD i 0),1,0,2048⟩,0,8⟩:Sp)
theorem wkO1:SpOk wkS1:=⟨⟨litU8 _ (by decide),litU8 _ (by decide),by decide,by decide,by decide⟩,by decide,by decide⟩
theorem wkE1:spErr wkS1=0:=by decide+kernel
theorem wkN1:(spL wkS1).length=32:=by decide+kernel
theorem wkP1 (w:World):Calls Tryz.prog 15 #[.agg #[.bool false,.int .u8 10,.int .u8 0,.int .u8 0,.int .u8 1,.int .u8 0,.int .u8 0,.int .u8 0,.int .u8 0,.int .u8 0,.int .u8 0,.int .u8 0,.int .u8 0,.int .u8 0,.int .u8 0,.int .u8 0,.int .u8 0,.bool false,.int .u8 10,.int .u8 0,.int .u8 0,.int .u8 2,.int .u8 0,.int .u8 0,.int .u8 0,.int .u8 0,.int .u8 0,.int .u8 0,.int .u8 0,.int .u8 0,.int .u8 0,.int .u8 0,.int .u8 0,.int .u8 0,.int .u8 1,.int .u16 0,.int .u16 2048,.int .u8 0,.int .i64 8]] w (BytesErr w (spL wkS1) 0):=by
 have h:=spput_any wkS1 wkO1 w
 rw[wkE1] at h
 exact h
def wkS2:Sp:=(⟨⟨true,(fun i=>([0,0,0,0,0,0,0,0,0,0,0,0,0,0,0,1]:List Int).getD i 0),true,(fun i=>([0,0,0,0,0,0,0,0,0,0,0,0,0,0,0,2]:List Int).getD i 0),17,9,53⟩,0,1⟩:Sp)
theorem wkO2:SpOk wkS2:=⟨⟨litU8 _ (by decide),litU8 _ (by decide),by decide,by decide,by decide⟩,by decide,by decide⟩
theorem wkE2:spErr wkS2=0:=by decide+kernel
theorem wkN2:(spL wkS2).length=49:=by decide+kernel
theorem wkP2 (w:World):Calls Tryz.prog 15 #[.agg #[.bool true,.int .u8 0,.int .u8 0,.int .u8 0,.int .u8 0,.int .u8 0,.int .u8 0,.int .u8 0,.int .u8 0,.int .u8 0,.int .u8 0,.int .u8 0,.int .u8 0,.int .u8 0,.int .u8 0,.int .u8 0,.int .u8 1,.bool true,.int .u8 0,.int .u8 0,.int .u8 0,.int .u8 0,.int .u8 0,.int .u8 0,.int .u8 0,.int .u8 0,.int .u8 0,.int .u8 0,.int .u8 0,.int .u8 0,.int .u8 0,.int .u8 0,.int .u8 0,.int .u8 2,.int .u8 17,.int .u16 9,.int .u16 53,.int .u8 0,.int .i64 1]] w (BytesErr w (spL wkS2) 0):=by
 have h:=spput_any wkS2 wkO2 w
 rw[wkE2] at h
 exact h
theorem wkB20:(spL wkS1).getD 20 0=8:=by decide+kernel
theorem wkQ (oa:Option Addr)(cap:Nat)(w:World)(h:Reads w oa 40 cap (spL wkS0)):Calls Tryz.prog 11 #[.slice oa 40 cap] w (RetAt w (.tuple #[.agg #[.bool false,.int .u8 10,.int .u8 0,.int .u8 0,.int .u8 1,.int .u8 0,.int .u8 0,.int .u8 0,.int .u8 0,.int .u8 0,.int .u8 0,.int .u8 0,.int .u8 0,.int .u8 0,.int .u8 0,.int .u8 0,.int .u8 0,.bool false,.int .u8 10,.int .u8 0,.int .u8 0,.int .u8 2,.int .u8 0,.int .u8 0,.int .u8 0,.int .u8 0,.int .u8 0,.int .u8 0,.int .u8 0,.int .u8 0,.int .u8 0,.int .u8 0,.int .u8 0,.int .u8 0,.int .u8 6,.int .u16 5,.int .u16 80,.int .i64 40,.int .u8 2,.bool false],.int .i64 0])):=by
 have h1:=pparse_four oa 40 cap _ w h (by decide) (by decide) (by decide+kernel)
 rw[show pkR (spL wkS0)=.tuple #[.agg #[.bool false,.int .u8 10,.int .u8 0,.int .u8 0,.int .u8 1,.int .u8 0,.int .u8 0,.int .u8 0,.int .u8 0,.int .u8 0,.int .u8 0,.int .u8 0,.int .u8 0,.int .u8 0,.int .u8 0,.int .u8 0,.int .u8 0,.bool false,.int .u8 10,.int .u8 0,.int .u8 0,.int .u8 2,.int .u8 0,.int .u8 0,.int .u8 0,.int .u8 0,.int .u8 0,.int .u8 0,.int .u8 0,.int .u8 0,.int .u8 0,.int .u8 0,.int .u8 0,.int .u8 0,.int .u8 6,.int .u16 5,.int .u16 80,.int .i64 40,.int .u8 2,.bool false],.int .i64 0] by kernel_rfl] at h1
 exact h1
def NewE (w:World)(m:Nat)(l:List Int)(err:Int):Ending→World→Prop:=fun e w'=>∃oa cap,e=.returned (.tuple #[.slice oa m cap,.int .i64 err])∧Reads w' oa m cap l∧Below w.heap.size w w'
theorem BytesErr.n {w:World}{m:Nat}{l:List Int}{err:Int}(hm:l.length=m)(hl:∀v∈l,0≤v∧v<256){e:Ending}{w':World}(h:BytesErr w l err e w'):NewE w m l err e w':=by
 subst hm
 obtain⟨oa,cap,h1,h2,h3⟩:=h
 exact⟨oa,cap,h1,h2.reads hl,h3⟩
theorem works8_any (w:World)(henv:Env w):Calls Tryz.prog 9 #[] w (RetAt w (.bool true)):=by
 have HE:=Lib.hid henv
 clear henv
 have HP0:Hid (∀w,Calls Tryz.prog 15 #[.agg #[.bool false,.int .u8 10,.int .u8 0,.int .u8 0,.int .u8 1,.int .u8 0,.int .u8 0,.int .u8 0,.int .u8 0,.int .u8 0,.int .u8 0,.int .u8 0,.int .u8 0,.int .u8 0,.int .u8 0,.int .u8 0,.int .u8 0,.bool false,.int .u8 10,.int .u8 0,.int .u8 0,.int .u8 2,.int .u8 0,.int .u8 0,.int .u8 0,.int .u8 0,.int .u8 0,.int .u8 0,.int .u8 0,.int .u8 0,.int .u8 0,.int .u8 0,.int .u8 0,.int .u8 0,.int .u8 6,.int .u16 5,.int .u16 80,.int .u8 2,.int .i64 0]] w (NewE w 40 (spL wkS0) 0)):=Lib.hid fun w=>(wkP0 w).mono fun _ _ h=>h.n wkN0 (spL_byte wkO0)
 have HP1:Hid (∀w,Calls Tryz.prog 15 #[.agg #[.bool false,.int .u8 10,.int .u8 0,.int .u8 0,.int .u8 1,.int .u8 0,.int .u8 0,.int .u8 0,.int .u8 0,.int .u8 0,.int .u8 0,.int .u8 0,.int .u8 0,.int .u8 0,.int .u8 0,.int .u8 0,.int .u8 0,.bool false,.int .u8 10,.int .u8 0,.int .u8 0,.int .u8 2,.int .u8 0,.int .u8 0,.int .u8 0,.int .u8 0,.int .u8 0,.int .u8 0,.int .u8 0,.int .u8 0,.int .u8 0,.int .u8 0,.int .u8 0,.int .u8 0,.int .u8 1,.int .u16 0,.int .u16 2048,.int .u8 0,.int .i64 8]] w (NewE w 32 (spL wkS1) 0)):=Lib.hid fun w=>(wkP1 w).mono fun _ _ h=>h.n wkN1 (spL_byte wkO1)
 have HP2:Hid (∀w,Calls Tryz.prog 15 #[.agg #[.bool true,.int .u8 0,.int .u8 0,.int .u8 0,.int .u8 0,.int .u8 0,.int .u8 0,.int .u8 0,.int .u8 0,.int .u8 0,.int .u8 0,.int .u8 0,.int .u8 0,.int .u8 0,.int .u8 0,.int .u8 0,.int .u8 1,.bool true,.int .u8 0,.int .u8 0,.int .u8 0,.int .u8 0,.int .u8 0,.int .u8 0,.int .u8 0,.int .u8 0,.int .u8 0,.int .u8 0,.int .u8 0,.int .u8 0,.int .u8 0,.int .u8 0,.int .u8 0,.int .u8 2,.int .u8 17,.int .u16 9,.int .u16 53,.int .u8 0,.int .i64 1]] w (NewE w 49 (spL wkS2) 0)):=Lib.hid fun w=>(wkP2 w).mono fun _ _ h=>h.n wkN2 (spL_byte wkO2)
 have HQ:=Lib.hid wkQ
 have H20:=Lib.hid wkB20
 have BX0:=Lib.hid (Bx.start w)
 generalize spL wkS0=L0 at*
 generalize spL wkS1=L1 at*
 generalize spL wkS2=L2 at*
 go_enter Tryz.func9,Tryz.ntmps9
 go_wp2_with fail
 refine BX0.out.ret (wkR0 _ (HE.out.below BX0.out.out)) ?_
 intro u1 hb1 BU1
 have BX1:=Lib.hid (BU1.out.box #[.bool false,.int .u8 10,.int .u8 0,.int .u8 0,.int .u8 1,.int .u8 0,.int .u8 0,.int .u8 0,.int .u8 0,.int .u8 0,.int .u8 0,.int .u8 0,.int .u8 0,.int .u8 0,.int .u8 0,.int .u8 0,.int .u8 0,.bool false,.int .u8 10,.int .u8 0,.int .u8 0,.int .u8 2,.int .u8 0,.int .u8 0,.int .u8 0,.int .u8 0,.int .u8 0,.int .u8 0,.int .u8 0,.int .u8 0,.int .u8 0,.int .u8 0,.int .u8 0,.int .u8 0,.int .u8 6,.int .u16 5,.int .u16 80] 30)
 clear hb1 BU1 BX0
 obtain⟨b1,hq1⟩:∃b,b=u1.heap.size:=⟨_,rfl⟩
 go_wp2_with fail
 rw[←hq1] at BX1⊢
 clear hq1
 generalize u1.alloc _=y1 at*
 refine Calls.mono (HP0.out _) ?_
 rintro e u2 ⟨o0,c0,rfl,hr2,hb2⟩
 have BX2:=Lib.hid (BX1.out.go hb2)
 have HL0_2:=Lib.hid hr2
 clear hb2 hr2 BX1
 go_wp2_with fail
 refine BX2.out.ret (HQ.out o0 c0 _ HL0_2.out) ?_
 intro u3 hb3 BU3
 have BX3:=Lib.hid (BU3.out.box #[.bool false,.int .u8 10,.int .u8 0,.int .u8 0,.int .u8 1,.int .u8 0,.int .u8 0,.int .u8 0,.int .u8 0,.int .u8 0,.int .u8 0,.int .u8 0,.int .u8 0,.int .u8 0,.int .u8 0,.int .u8 0,.int .u8 0,.bool false,.int .u8 10,.int .u8 0,.int .u8 0,.int .u8 2,.int .u8 0,.int .u8 0,.int .u8 0,.int .u8 0,.int .u8 0,.int .u8 0,.int .u8 0,.int .u8 0,.int .u8 0,.int .u8 0,.int .u8 0,.int .u8 0,.int .u8 6,.int .u16 5,.int .u16 80,.int .i64 40,.int .u8 2,.bool false] 32)
 have HL0_3:=Lib.hid ((HL0_2.out.below hb3).alloc (.cells #[.bool false,.int .u8 10,.int .u8 0,.int .u8 0,.int .u8 1,.int .u8 0,.int .u8 0,.int .u8 0,.int .u8 0,.int .u8 0,.int .u8 0,.int .u8 0,.int .u8 0,.int .u8 0,.int .u8 0,.int .u8 0,.int .u8 0,.bool false,.int .u8 10,.int .u8 0,.int .u8 0,.int .u8 2,.int .u8 0,.int .u8 0,.int .u8 0,.int .u8 0,.int .u8 0,.int .u8 0,.int .u8 0,.int .u8 0,.int .u8 0,.int .u8 0,.int .u8 0,.int .u8 0,.int .u8 6,.int .u16 5,.int .u16 80,.int .i64 40,.int .u8 2,.bool false] 32))
 clear hb3 BU3 BX2 HL0_2
 obtain⟨b5,hq3⟩:∃b,b=u3.heap.size:=⟨_,rfl⟩
 go_wp2_with fail
 rw[←hq3] at BX3⊢
 clear hq3
 generalize u3.alloc _=y3 at*
 clear HL0_3
 refine BX3.out.ret (wkR1 _ (HE.out.below BX3.out.out)) ?_
 intro u4 hb4 BU4
 have BX4:=Lib.hid (BU4.out.box #[.bool false,.int .u8 10,.int .u8 0,.int .u8 0,.int .u8 1,.int .u8 0,.int .u8 0,.int .u8 0,.int .u8 0,.int .u8 0,.int .u8 0,.int .u8 0,.int .u8 0,.int .u8 0,.int .u8 0,.int .u8 0,.int .u8 0,.bool false,.int .u8 10,.int .u8 0,.int .u8 0,.int .u8 2,.int .u8 0,.int .u8 0,.int .u8 0,.int .u8 0,.int .u8 0,.int .u8 0,.int .u8 0,.int .u8 0,.int .u8 0,.int .u8 0,.int .u8 0,.int .u8 0,.int .u8 1,.int .u16 0,.int .u16 2048] 30)
 clear hb4 BU4 BX3
 obtain⟨b7,hq4⟩:∃b,b=u4.heap.size:=⟨_,rfl⟩
 go_wp2_with fail
 rw[←hq4] at BX4⊢
 clear hq4
 generalize u4.alloc _=y4 at*
 refine Calls.mono (HP1.out _) ?_
 rintro e u5 ⟨o1,c1,rfl,hr5,hb5⟩
 have BX5:=Lib.hid (BX4.out.go hb5)
 have HL1_5:=Lib.hid hr5
 clear hb5 hr5 BX4
 go_wp2_with fail
 refine BX5.out.ret (wkR2 _ (HE.out.below BX5.out.out)) ?_
 intro u6 hb6 BU6
 have BX6:=Lib.hid (BU6.out.box #[.bool true,.int .u8 0,.int .u8 0,.int .u8 0,.int .u8 0,.int .u8 0,.int .u8 0,.int .u8 0,.int .u8 0,.int .u8 0,.int .u8 0,.int .u8 0,.int .u8 0,.int .u8 0,.int .u8 0,.int .u8 0,.int .u8 1,.bool true,.int .u8 0,.int .u8 0,.int .u8 0,.int .u8 0,.int .u8 0,.int .u8 0,.int .u8 0,.int .u8 0,.int .u8 0,.int .u8 0,.int .u8 0,.int .u8 0,.int .u8 0,.int .u8 0,.int .u8 0,.int .u8 2,.int .u8 17,.int .u16 9,.int .u16 53] 30)
 have HL1_6:=Lib.hid ((HL1_5.out.below hb6).alloc (.cells #[.bool true,.int .u8 0,.int .u8 0,.int .u8 0,.int .u8 0,.int .u8 0,.int .u8 0,.int .u8 0,.int .u8 0,.int .u8 0,.int .u8 0,.int .u8 0,.int .u8 0,.int .u8 0,.int .u8 0,.int .u8 0,.int .u8 1,.bool true,.int .u8 0,.int .u8 0,.int .u8 0,.int .u8 0,.int .u8 0,.int .u8 0,.int .u8 0,.int .u8 0,.int .u8 0,.int .u8 0,.int .u8 0,.int .u8 0,.int .u8 0,.int .u8 0,.int .u8 0,.int .u8 2,.int .u8 17,.int .u16 9,.int .u16 53] 30))
 clear hb6 BU6 BX5 HL1_5
 obtain⟨b11,hq6⟩:∃b,b=u6.heap.size:=⟨_,rfl⟩
 go_wp2_with fail
 rw[←hq6] at BX6⊢
 clear hq6
 generalize u6.alloc _=y6 at*
 refine Calls.mono (HP2.out _) ?_
 rintro e u7 ⟨o2,c2,rfl,hr7,hb7⟩
 have BX7:=Lib.hid (BX6.out.go hb7)
 have HL1_7:=Lib.hid (HL1_6.out.below hb7)
 clear hb7 hr7 BX6 HL1_6
 go_wp2_with fail
 refine BX7.out.ret (wkR3 _ (HE.out.below BX7.out.out)) ?_
 intro u8 hb8 BU8
 have BX8:=Lib.hid (BU8.out.box #[.bool false,.int .u8 0,.int .u8 0,.int .u8 0,.int .u8 0,.int .u8 0,.int .u8 0,.int .u8 0,.int .u8 0,.int .u8 0,.int .u8 0,.int .u8 0,.int .u8 0,.int .u8 0,.int .u8 0,.int .u8 0,.int .u8 0,.bool false,.int .u8 0,.int .u8 0,.int .u8 0,.int .u8 0,.int .u8 0,.int .u8 0,.int .u8 0,.int .u8 0,.int .u8 0,.int .u8 0,.int .u8 0,.int .u8 0,.int .u8 0,.int .u8 0,.int .u8 0,.int .u8 0,.int .u8 0,.int .u16 0,.int .u16 0] 30)
 have HL1_8:=Lib.hid ((HL1_7.out.below hb8).alloc (.cells #[.bool false,.int .u8 0,.int .u8 0,.int .u8 0,.int .u8 0,.int .u8 0,.int .u8 0,.int .u8 0,.int .u8 0,.int .u8 0,.int .u8 0,.int .u8 0,.int .u8 0,.int .u8 0,.int .u8 0,.int .u8 0,.int .u8 0,.bool false,.int .u8 0,.int .u8 0,.int .u8 0,.int .u8 0,.int .u8 0,.int .u8 0,.int .u8 0,.int .u8 0,.int .u8 0,.int .u8 0,.int .u8 0,.int .u8 0,.int .u8 0,.int .u8 0,.int .u8 0,.int .u8 0,.int .u8 0,.int .u16 0,.int .u16 0] 30))
 clear hb8 BU8 BX7 HL1_7
 obtain⟨b15,hq8⟩:∃b,b=u8.heap.size:=⟨_,rfl⟩
 go_wp2_with fail
 rw[←hq8] at BX8⊢
 clear hq8
 generalize u8.alloc _=y8 at*
 refine BX8.out.ret (wkR4 _ (HE.out.below BX8.out.out)) ?_
 intro u9 hb9 BU9
 have BX9:=Lib.hid (BU9.out.box #[.bool false,.int .u8 0,.int .u8 0,.int .u8 0,.int .u8 0,.int .u8 0,.int .u8 0,.int .u8 0,.int .u8 0,.int .u8 0,.int .u8 0,.int .u8 0,.int .u8 0,.int .u8 0,.int .u8 0,.int .u8 0,.int .u8 0,.bool false,.int .u8 0,.int .u8 0,.int .u8 0,.int .u8 0,.int .u8 0,.int .u8 0,.int .u8 0,.int .u8 0,.int .u8 0,.int .u8 0,.int .u8 0,.int .u8 0,.int .u8 0,.int .u8 0,.int .u8 0,.int .u8 0,.int .u8 0,.int .u16 0,.int .u16 0] 30)
 have HL1:=Lib.hid ((HL1_8.out.below hb9).alloc (.cells #[.bool false,.int .u8 0,.int .u8 0,.int .u8 0,.int .u8 0,.int .u8 0,.int .u8 0,.int .u8 0,.int .u8 0,.int .u8 0,.int .u8 0,.int .u8 0,.int .u8 0,.int .u8 0,.int .u8 0,.int .u8 0,.int .u8 0,.bool false,.int .u8 0,.int .u8 0,.int .u8 0,.int .u8 0,.int .u8 0,.int .u8 0,.int .u8 0,.int .u8 0,.int .u8 0,.int .u8 0,.int .u8 0,.int .u8 0,.int .u8 0,.int .u8 0,.int .u8 0,.int .u8 0,.int .u8 0,.int .u16 0,.int .u16 0] 30))
 clear hb9 BU9 BX8 HL1_8
 obtain⟨g,off,hg,hgl,hgc⟩:=HL1.out.here (by decide)
 subst hg
 have c20:=hgc 20 (by decide)
 rw[H20.out] at c20
 have p5:=BX9.out.part (n:=40) 4 rfl rfl
 have p1:=BX9.out.part (n:=37) 5 rfl rfl
 have l5:=BX9.out.lt 4 rfl
 have l1:=BX9.out.lt 5 rfl
 clear hgc
 go_wp2_with fail
 go_ret
 exact .mk rfl BX9.out.out
open Go.RowKit Bits
theorem reads_row1 (w:World)(v:Int)(hv:0≤v∧v<256)(t:TypeId):Reads (w.alloc (.cells #[.int .u8 v] t)) (some ⟨w.heap.size,0,none⟩) 1 1 [v]:=by
 refine⟨by simp,Nat.le_refl _,by decide,fun u hu=>?_,.inr ⟨w.heap.size,0,rfl,by simp,fun j hj=>?_⟩⟩
 ·simp only[List.mem_cons,List.not_mem_nil,or_false] at hu;subst hu;exact hv
 ·obtain rfl:j=0:=by omega
  rw[cell_of_row _ _ _ _ _ _ (heap_alloc_new _ _)];rfl
structure KSt (w0:World)(g:Nat)(ob:Obj)(l:List Int)(w:World):Prop where
 wr:WrK w g (fun b=>b=w0.heap.size) l
 box:w.heap[w0.heap.size]? =some ob
 bel:Below w0.heap.size w0 w
 le:w0.heap.size<g
theorem KSt.go {w0 w w':World}{g:Nat}{ob:Obj}{l:List Int}(h:KSt w0 g ob l w)(hb:Below w.heap.size w w'):KSt w0 g ob l w':=
 ⟨h.wr.below hb,(hb.block _ (Array.getElem?_eq_some_iff.1 h.box).1).trans h.box,h.bel.trans (hb.mono h.bel.size),h.le⟩
theorem KSt.raw {w0 w:World}{g:Nat}{ob:Obj}{l:List Int}(h:KSt w0 g ob l w){A:Option Addr}{m c:Nat}{l2:List Int}(hr:Reads w A m c l2)(hm:l.length+l2.length≤1000000):
 Calls Tryz.prog 63 #[.pointer (some ⟨g,0,none⟩),.slice A m c] w (fun e w'=>e=.returned (.int .i64 0)∧KSt w0 g ob (l++l2) w'):=
 Calls.mono (raw_keep g _ l A m c l2 w h.wr hr hm) fun e w' ⟨he,hw,hb,hs⟩=>⟨he,hw,(hs _ rfl).trans h.box,h.bel.trans (hb.mono (Nat.le_of_lt h.le)),h.le⟩
theorem KSt.put {w0 w:World}{g:Nat}{ob:Obj}{l:List Int}(h:KSt w0 g ob l w)(v:Int)(h0:0≤v∧v<65536)(hm:l.length≤900000):
 Calls Tryz.prog 65 #[.pointer (some ⟨g,0,none⟩),.int .u64 v,.int .i64 2] w (fun e w'=>e=.returned (.int .i64 0)∧KSt w0 g ob (l++be2 v) w'):=
 Calls.mono (put_keep 2 (.inr rfl) g _ l v h0.1 (by unfold topB;simp;omega) w h.wr hm) fun e w' ⟨he,hw,hb,hs⟩=>⟨he,hw,(hs _ rfl).trans h.box,h.bel.trans (hb.mono (Nat.le_of_lt h.le)),h.le⟩
theorem kbytes_four (S:Nat→Int)(t:Bool)(T:Nat→Int)(p a b:Int)(hr:kyRight ⟨false,S,t,T,p,a,b⟩=true)(hS:U8 S)(hT:U8 T)(hp:0≤p∧p<256)(ha:0≤a∧a<65536)(hb:0≤b∧b<65536)(w:World):
 Calls Tryz.prog 24 #[.agg (kyC false S t T p a b)] w (NewBytes w ([4]++adBytes false S++adBytes t T++[p]++be2 a++be2 b)):=by
 have HR:=fun w=>kright_any false S t T p a b w
 rw[hr] at HR
 have HN1:Hid ((adBytes false S).length≤16):=Lib.hid (by rw[adBytes_len];decide)
 have HN2:Hid ((adBytes t T).length≤16):=Lib.hid (by rw[adBytes_len];cases t<;>decide)
 obtain⟨m1,hm1⟩:∃m,(adBytes false S).length=m:=⟨_,rfl⟩
 obtain⟨m2,hm2⟩:∃m,(adBytes t T).length=m:=⟨_,rfl⟩
 have HS:Hid (∀w,Calls Tryz.prog 64 #[adV false S] w (NewN w m1 (adBytes false S))):=Lib.hid fun w=>(bytes_any false S w).mono fun _ _ h=>h.n hm1 (adBytes_isb hS false)
 have HT:Hid (∀w,Calls Tryz.prog 64 #[adV t T] w (NewN w m2 (adBytes t T))):=Lib.hid fun w=>(bytes_any t T w).mono fun _ _ h=>h.n hm2 (adBytes_isb hT t)
 have HA:=Lib.hid ha
 have HBB:=Lib.hid hb
 have HPP:=Lib.hid hp
 generalize adBytes false S=A1 at*
 generalize adBytes t T=A2 at*
 obtain⟨LL,hLL⟩:∃LL,[4]++A1++A2++[p]++be2 a++be2 b=LL:=⟨_,rfl⟩
 rw[hLL]
 have HLL:=Lib.hid hLL
 clear hLL
 clear hr ha hb hp hm1 hm2 hS hT
 unfold kyC adV at*
 go_enter Tryz.func24,Tryz.ntmps24
 go_wp2_with fail
 refine Calls.later (HR _) ?_
 intro x
 have h1:x.world.heap[w.heap.size]? =some (.cells (kyC false S t T p a b) 30 (0,0)):=(x.below.block _ (by simp)).trans (heap_alloc_new w (.cells (kyC false S t T p a b) 30))
 have HBx:Hid (Below w.heap.size w x.world):=Lib.hid (Below.lat (Below.all (Below.refl _ _) _))
 have hc0:x.world.cell? ⟨w.heap.size,0,none⟩=some (.bool false):=by rw[cell_of_row _ _ _ _ _ _ h1];rfl
 have hlx:w.heap.size<x.world.heap.size:=(Array.getElem?_eq_some_iff.1 h1).1
 have H1:=Lib.hid h1
 clear h1
 generalize x.world=y at*
 go_wp2_with fail
 obtain⟨g,hg⟩:∃g,g=y.heap.size:=⟨_,rfl⟩
 have hlg:w.heap.size<g:=by omega
 have ST0:Hid (KSt w g (.cells (kyC false S t T p a b) 30 (0,0)) [] (y.alloc (.cells #[.slice none 0 0] 137))):=Lib.hid ⟨WrK.new (by rw[hg];exact cell_of_row _ _ _ _ _ _ (heap_alloc_new _ _)) (by rw[hg];exact frozen_of_row _ _ _ _ _ (heap_alloc_new _ _)) (by rw[hg];simp) (by intro b hb;omega),(heap_alloc_old _ _ hlx).trans H1.out,Below.all HBx.out _,hlg⟩
 have hsz:(y.alloc (.cells #[.slice none 0 0] 137)).heap.size=g+1:=by rw[hg];simp
 rw[←hg]
 generalize y.alloc (.cells #[.slice none 0 0] 137)=y1 at*
 have hrd:=reads_row1 y1 4 (by decide) 5
 rw[hsz] at hrd
 have HRD:=Lib.hid hrd
 clear hrd hsz
 refine Calls.mono ((ST0.out.go (Below.all (Below.refl _ _) (.cells #[.int .u8 4] 5))).raw HRD.out (by simp)) ?_
 clear HRD ST0 H1 hc0 HBx hlx hg HR
 rintro e w3 ⟨rfl,st⟩
 have ST:=Lib.hid st
 clear st
 have p1:partOf w3 w.heap.size 0 17=#[.bool false,.int .u8 (S 0),.int .u8 (S 1),.int .u8 (S 2),.int .u8 (S 3),.int .u8 (S 4),.int .u8 (S 5),.int .u8 (S 6),.int .u8 (S 7),.int .u8 (S 8),.int .u8 (S 9),.int .u8 (S 10),.int .u8 (S 11),.int .u8 (S 12),.int .u8 (S 13),.int .u8 (S 14),.int .u8 (S 15)]:=by rw[partOf_row _ _ _ _ _ _ _ ST.out.box];simp[kyC]
 have hl3:w.heap.size<w3.heap.size:=(Array.getElem?_eq_some_iff.1 ST.out.box).1
 go_wp2_with fail
 refine Calls.mono (HS.out _) ?_
 rintro e w4 ⟨oa,cap,rfl,hr4,hb4⟩
 have ST4:=Lib.hid (ST.out.go hb4)
 have HR4:=Lib.hid hr4
 clear hr4 hb4 ST p1 hl3
 go_wp2_with fail
 refine Calls.mono (ST4.out.raw HR4.out (by have:=HN1.out;simp;omega)) ?_
 rintro e w5 ⟨rfl,st⟩
 have ST5:=Lib.hid st
 clear st ST4 HR4
 have p2:partOf w5 w.heap.size 17 17=#[.bool t,.int .u8 (T 0),.int .u8 (T 1),.int .u8 (T 2),.int .u8 (T 3),.int .u8 (T 4),.int .u8 (T 5),.int .u8 (T 6),.int .u8 (T 7),.int .u8 (T 8),.int .u8 (T 9),.int .u8 (T 10),.int .u8 (T 11),.int .u8 (T 12),.int .u8 (T 13),.int .u8 (T 14),.int .u8 (T 15)]:=by rw[partOf_row _ _ _ _ _ _ _ ST5.out.box];simp[kyC]
 have hl5:w.heap.size<w5.heap.size:=(Array.getElem?_eq_some_iff.1 ST5.out.box).1
 go_wp2_with fail
 refine Calls.mono (HT.out _) ?_
 rintro e w6 ⟨ob,cap6,rfl,hr6,hb6⟩
 have ST6:=Lib.hid (ST5.out.go hb6)
 have HR6:=Lib.hid hr6
 clear hr6 hb6 ST5 p2 hl5
 go_wp2_with fail
 refine Calls.mono (ST6.out.raw HR6.out (by have:=HN1.out;have:=HN2.out;simp;omega)) ?_
 rintro e w7 ⟨rfl,st⟩
 have ST7:=Lib.hid st
 clear st ST6 HR6
 have c34:w7.cell? ⟨w.heap.size,34,none⟩=some (.int .u8 p):=cell_of_row _ _ 34 _ _ (0,0) ST7.out.box
 have hl7:w.heap.size<w7.heap.size:=(Array.getElem?_eq_some_iff.1 ST7.out.box).1
 have HRD:=Lib.hid (reads_row1 w7 p HPP.out 5)
 have ST8:=Lib.hid (ST7.out.go (Below.all (Below.refl _ _) (.cells #[.int .u8 p] 5)))
 clear ST7
 go_wp2_with fail
 refine Calls.mono (ST8.out.raw HRD.out (by have:=HN1.out;have:=HN2.out;simp;omega)) ?_
 rintro e w9 ⟨rfl,st⟩
 have ST9:=Lib.hid st
 clear st ST8 HRD c34 hl7
 have ha0:=HA.out.1
 have ha1:=HA.out.2
 have hwa:IntKind.u64.wrap a=a:=by rw[IntKind.wrap_u64];omega
 have c35:w9.cell? ⟨w.heap.size,35,none⟩=some (.int .u16 a):=cell_of_row _ _ 35 _ _ (0,0) ST9.out.box
 have hl9:w.heap.size<w9.heap.size:=(Array.getElem?_eq_some_iff.1 ST9.out.box).1
 go_wp2_with fail
 refine Calls.mono (ST9.out.put a HA.out (by have:=HN1.out;have:=HN2.out;simp;omega)) ?_
 rintro e w10 ⟨rfl,st⟩
 have ST10:=Lib.hid st
 clear st ST9 c35 hl9 ha0 ha1 hwa
 have hb0:=HBB.out.1
 have hb1:=HBB.out.2
 have hwb:IntKind.u64.wrap b=b:=by rw[IntKind.wrap_u64];omega
 have c36:w10.cell? ⟨w.heap.size,36,none⟩=some (.int .u16 b):=cell_of_row _ _ 36 _ _ (0,0) ST10.out.box
 have hl10:w.heap.size<w10.heap.size:=(Array.getElem?_eq_some_iff.1 ST10.out.box).1
 go_wp2_with fail
 refine Calls.mono (ST10.out.put b HBB.out (by have:=HN1.out;have:=HN2.out;simp[be2];omega)) ?_
 rintro e w11 ⟨rfl,st⟩
 have ST11:Hid (KSt w g (.cells (kyC false S t T p a b) 30 (0,0)) LL w11):=Lib.hid (by rw[←HLL.out];simpa using st)
 clear st ST10 c36 hl10 hb0 hb1 hwb
 go_wp2_with fail
 refine Calls.mono (Bits.bytes_any g LL w11 ST11.out.wr.wr (by have:=HN1.out;have:=HN2.out;rw[←HLL.out];simp[be2];omega)) ?_
 rintro e w12 ⟨oc,cc,rfl,ho,hb12⟩
 have HO:=Lib.hid ho
 have HB12:=Lib.hid (ST11.out.bel.trans (hb12.mono ST11.out.bel.size))
 have HS11:=Lib.hid ST11.out.bel.size
 clear ho hb12 ST11
 go_wp2_with fail
 go_ret
 exact⟨_,_,rfl,HO.out.mono HS11.out,HB12.out⟩
theorem kbytes_six (S:Nat→Int)(t:Bool)(T:Nat→Int)(p a b:Int)(hr:kyRight ⟨true,S,t,T,p,a,b⟩=true)(hS:U8 S)(hT:U8 T)(hp:0≤p∧p<256)(ha:0≤a∧a<65536)(hb:0≤b∧b<65536)(w:World):
 Calls Tryz.prog 24 #[.agg (kyC true S t T p a b)] w (NewBytes w ([6]++adBytes true S++adBytes t T++[p]++be2 a++be2 b)):=by
 have HR:=fun w=>kright_any true S t T p a b w
 rw[hr] at HR
 have HN1:Hid ((adBytes true S).length≤16):=Lib.hid (by rw[adBytes_len];decide)
 have HN2:Hid ((adBytes t T).length≤16):=Lib.hid (by rw[adBytes_len];cases t<;>decide)
 obtain⟨m1,hm1⟩:∃m,(adBytes true S).length=m:=⟨_,rfl⟩
 obtain⟨m2,hm2⟩:∃m,(adBytes t T).length=m:=⟨_,rfl⟩
 have HS:Hid (∀w,Calls Tryz.prog 64 #[adV true S] w (NewN w m1 (adBytes true S))):=Lib.hid fun w=>(bytes_any true S w).mono fun _ _ h=>h.n hm1 (adBytes_isb hS true)
 have HT:Hid (∀w,Calls Tryz.prog 64 #[adV t T] w (NewN w m2 (adBytes t T))):=Lib.hid fun w=>(bytes_any t T w).mono fun _ _ h=>h.n hm2 (adBytes_isb hT t)
 have HA:=Lib.hid ha
 have HBB:=Lib.hid hb
 have HPP:=Lib.hid hp
 generalize adBytes true S=A1 at*
 generalize adBytes t T=A2 at*
 obtain⟨LL,hLL⟩:∃LL,[6]++A1++A2++[p]++be2 a++be2 b=LL:=⟨_,rfl⟩
 rw[hLL]
 have HLL:=Lib.hid hLL
 clear hLL
 clear hr ha hb hp hm1 hm2 hS hT
 unfold kyC adV at*
 go_enter Tryz.func24,Tryz.ntmps24
 go_wp2_with fail
 refine Calls.later (HR _) ?_
 intro x
 have h1:x.world.heap[w.heap.size]? =some (.cells (kyC true S t T p a b) 30 (0,0)):=(x.below.block _ (by simp)).trans (heap_alloc_new w (.cells (kyC true S t T p a b) 30))
 have HBx:Hid (Below w.heap.size w x.world):=Lib.hid (Below.lat (Below.all (Below.refl _ _) _))
 have hc0:x.world.cell? ⟨w.heap.size,0,none⟩=some (.bool true):=by rw[cell_of_row _ _ _ _ _ _ h1];rfl
 have hlx:w.heap.size<x.world.heap.size:=(Array.getElem?_eq_some_iff.1 h1).1
 have H1:=Lib.hid h1
 clear h1
 generalize x.world=y at*
 go_wp2_with fail
 obtain⟨g,hg⟩:∃g,g=y.heap.size:=⟨_,rfl⟩
 have hlg:w.heap.size<g:=by omega
 have ST0:Hid (KSt w g (.cells (kyC true S t T p a b) 30 (0,0)) [] (y.alloc (.cells #[.slice none 0 0] 137))):=Lib.hid ⟨WrK.new (by rw[hg];exact cell_of_row _ _ _ _ _ _ (heap_alloc_new _ _)) (by rw[hg];exact frozen_of_row _ _ _ _ _ (heap_alloc_new _ _)) (by rw[hg];simp) (by intro b hb;omega),(heap_alloc_old _ _ hlx).trans H1.out,Below.all HBx.out _,hlg⟩
 have hsz:(y.alloc (.cells #[.slice none 0 0] 137)).heap.size=g+1:=by rw[hg];simp
 rw[←hg]
 generalize y.alloc (.cells #[.slice none 0 0] 137)=y1 at*
 have hrd:=reads_row1 y1 6 (by decide) 5
 rw[hsz] at hrd
 have HRD:=Lib.hid hrd
 clear hrd hsz
 refine Calls.mono ((ST0.out.go (Below.all (Below.refl _ _) (.cells #[.int .u8 6] 5))).raw HRD.out (by simp)) ?_
 clear HRD ST0 H1 hc0 HBx hlx hg HR
 rintro e w3 ⟨rfl,st⟩
 have ST:=Lib.hid st
 clear st
 have p1:partOf w3 w.heap.size 0 17=#[.bool true,.int .u8 (S 0),.int .u8 (S 1),.int .u8 (S 2),.int .u8 (S 3),.int .u8 (S 4),.int .u8 (S 5),.int .u8 (S 6),.int .u8 (S 7),.int .u8 (S 8),.int .u8 (S 9),.int .u8 (S 10),.int .u8 (S 11),.int .u8 (S 12),.int .u8 (S 13),.int .u8 (S 14),.int .u8 (S 15)]:=by rw[partOf_row _ _ _ _ _ _ _ ST.out.box];simp[kyC]
 have hl3:w.heap.size<w3.heap.size:=(Array.getElem?_eq_some_iff.1 ST.out.box).1
 go_wp2_with fail
 refine Calls.mono (HS.out _) ?_
 rintro e w4 ⟨oa,cap,rfl,hr4,hb4⟩
 have ST4:=Lib.hid (ST.out.go hb4)
 have HR4:=Lib.hid hr4
 clear hr4 hb4 ST p1 hl3
 go_wp2_with fail
 refine Calls.mono (ST4.out.raw HR4.out (by have:=HN1.out;simp;omega)) ?_
 rintro e w5 ⟨rfl,st⟩
 have ST5:=Lib.hid st
 clear st ST4 HR4
 have p2:partOf w5 w.heap.size 17 17=#[.bool t,.int .u8 (T 0),.int .u8 (T 1),.int .u8 (T 2),.int .u8 (T 3),.int .u8 (T 4),.int .u8 (T 5),.int .u8 (T 6),.int .u8 (T 7),.int .u8 (T 8),.int .u8 (T 9),.int .u8 (T 10),.int .u8 (T 11),.int .u8 (T 12),.int .u8 (T 13),.int .u8 (T 14),.int .u8 (T 15)]:=by rw[partOf_row _ _ _ _ _ _ _ ST5.out.box];simp[kyC]
 have hl5:w.heap.size<w5.heap.size:=(Array.getElem?_eq_some_iff.1 ST5.out.box).1
 go_wp2_with fail
 refine Calls.mono (HT.out _) ?_
 rintro e w6 ⟨ob,cap6,rfl,hr6,hb6⟩
 have ST6:=Lib.hid (ST5.out.go hb6)
 have HR6:=Lib.hid hr6
 clear hr6 hb6 ST5 p2 hl5
 go_wp2_with fail
 refine Calls.mono (ST6.out.raw HR6.out (by have:=HN1.out;have:=HN2.out;simp;omega)) ?_
 rintro e w7 ⟨rfl,st⟩
 have ST7:=Lib.hid st
 clear st ST6 HR6
 have c34:w7.cell? ⟨w.heap.size,34,none⟩=some (.int .u8 p):=cell_of_row _ _ 34 _ _ (0,0) ST7.out.box
 have hl7:w.heap.size<w7.heap.size:=(Array.getElem?_eq_some_iff.1 ST7.out.box).1
 have HRD:=Lib.hid (reads_row1 w7 p HPP.out 5)
 have ST8:=Lib.hid (ST7.out.go (Below.all (Below.refl _ _) (.cells #[.int .u8 p] 5)))
 clear ST7
 go_wp2_with fail
 refine Calls.mono (ST8.out.raw HRD.out (by have:=HN1.out;have:=HN2.out;simp;omega)) ?_
 rintro e w9 ⟨rfl,st⟩
 have ST9:=Lib.hid st
 clear st ST8 HRD c34 hl7
 have ha0:=HA.out.1
 have ha1:=HA.out.2
 have hwa:IntKind.u64.wrap a=a:=by rw[IntKind.wrap_u64];omega
 have c35:w9.cell? ⟨w.heap.size,35,none⟩=some (.int .u16 a):=cell_of_row _ _ 35 _ _ (0,0) ST9.out.box
 have hl9:w.heap.size<w9.heap.size:=(Array.getElem?_eq_some_iff.1 ST9.out.box).1
 go_wp2_with fail
 refine Calls.mono (ST9.out.put a HA.out (by have:=HN1.out;have:=HN2.out;simp;omega)) ?_
 rintro e w10 ⟨rfl,st⟩
 have ST10:=Lib.hid st
 clear st ST9 c35 hl9 ha0 ha1 hwa
 have hb0:=HBB.out.1
 have hb1:=HBB.out.2
 have hwb:IntKind.u64.wrap b=b:=by rw[IntKind.wrap_u64];omega
 have c36:w10.cell? ⟨w.heap.size,36,none⟩=some (.int .u16 b):=cell_of_row _ _ 36 _ _ (0,0) ST10.out.box
 have hl10:w.heap.size<w10.heap.size:=(Array.getElem?_eq_some_iff.1 ST10.out.box).1
 go_wp2_with fail
 refine Calls.mono (ST10.out.put b HBB.out (by have:=HN1.out;have:=HN2.out;simp[be2];omega)) ?_
 rintro e w11 ⟨rfl,st⟩
 have ST11:Hid (KSt w g (.cells (kyC true S t T p a b) 30 (0,0)) LL w11):=Lib.hid (by rw[←HLL.out];simpa using st)
 clear st ST10 c36 hl10 hb0 hb1 hwb
 go_wp2_with fail
 refine Calls.mono (Bits.bytes_any g LL w11 ST11.out.wr.wr (by have:=HN1.out;have:=HN2.out;rw[←HLL.out];simp[be2];omega)) ?_
 rintro e w12 ⟨oc,cc,rfl,ho,hb12⟩
 have HO:=Lib.hid ho
 have HB12:=Lib.hid (ST11.out.bel.trans (hb12.mono ST11.out.bel.size))
 have HS11:=Lib.hid ST11.out.bel.size
 clear ho hb12 ST11
 go_wp2_with fail
 go_ret
 exact⟨_,_,rfl,HO.out.mono HS11.out,HB12.out⟩
theorem kbytes_any (k:Ky)(hk:KyOk k)(w:World):Calls Tryz.prog 24 #[.agg (kyV k)] w (NewBytes w (kyBytes k)):=by
 obtain⟨s,S,t,T,p,a,b⟩:=k
 cases hr:kyRight ⟨s,S,t,T,p,a,b⟩ with
 |false=>exact kbytes_no s S t T p a b hr w
 |true=>
  have h:kyBytes ⟨s,S,t,T,p,a,b⟩=[if s then 6 else 4]++adBytes s S++adBytes t T++[p]++be2 a++be2 b:=by unfold kyBytes;rw[if_pos hr]
  rw[h]
  cases s
  ·exact kbytes_four S t T p a b hr hk.S hk.T hk.p hk.a hk.b w
  ·exact kbytes_six S t T p a b hr hk.S hk.T hk.p hk.a hk.b w
open Go.RowKit Bits
structure RBy (w0:World)(ob:Obj)(oa:Option Addr)(n cap:Nat)(l:List Int)(w:World):Prop where
 own:Owns w (w0.heap.size+1) 1 oa n cap (l.map (.int .u8))
 box:w.heap[w0.heap.size]? =some ob
 bel:Below w0.heap.size w0 w
theorem RBy.lt {w0 w:World}{ob:Obj}{oa:Option Addr}{n cap:Nat}{l:List Int}(h:RBy w0 ob oa n cap l w):w0.heap.size<w.heap.size:=(Array.getElem?_eq_some_iff.1 h.box).1
theorem RBy.go {w0 w w':World}{ob:Obj}{oa:Option Addr}{n cap:Nat}{l:List Int}(h:RBy w0 ob oa n cap l w)(hb:Below w.heap.size w w'):RBy w0 ob oa n cap l w':=
 ⟨h.own.below hb,(hb.block _ h.lt).trans h.box,h.bel.trans (hb.mono h.bel.size)⟩
theorem RBy.len {w0 w:World}{ob:Obj}{oa:Option Addr}{n cap:Nat}{l:List Int}(h:RBy w0 ob oa n cap l w):l.length=n:=by have:=h.own.len;simpa using this
theorem RBy.add {w0 w w':World}{ob:Obj}{oa oa':Option Addr}{n m cap cap':Nat}{l l2:List Int}(h:RBy w0 ob oa n cap l w)(ho:Owns w' (w0.heap.size+1) 1 oa' (n+m) cap' (l.map (.int .u8)++l2.map (.int .u8)))(hg:w.grownBy w' (oa.map Addr.block)):RBy w0 ob oa' (n+m) cap' (l++l2) w':=by
 rw[←List.map_append] at ho
 refine⟨ho,(hg.block _ h.lt (fun e=>?_)).trans h.box,Below.appended h.bel (h.own.mono (Nat.le_succ _)) (Nat.le_refl _) hg h.bel.size⟩
 obtain⟨a,ha,hab⟩:=Option.map_eq_some_iff.1 e.symm
 have:=(h.own.lt ha).1
 omega
theorem rkbytes_four (S:Nat→Int)(t:Bool)(T:Nat→Int)(p a b:Int)(hr:kyRight ⟨false,S,t,T,p,a,b⟩=true)(hS:U8 S)(hT:U8 T)(hp:0≤p∧p<256)(ha:0≤a∧a<65536)(hb:0≤b∧b<65536)(w:World):
 Calls Tryz.prog 25 #[.agg (kyC false S t T p a b)] w (NewBytes w ([4]++adBytes false S++adBytes t T++[p]++be2 a++be2 b)):=by
 have HR:=fun w=>rkright_any false S t T p a b w
 rw[hr] at HR
 have HN1:Hid ((adBytes false S).length≤16):=Lib.hid (by rw[adBytes_len];decide)
 have HN2:Hid ((adBytes t T).length≤16):=Lib.hid (by rw[adBytes_len];cases t<;>decide)
 obtain⟨m1,hm1⟩:∃m,(adBytes false S).length=m:=⟨_,rfl⟩
 obtain⟨m2,hm2⟩:∃m,(adBytes t T).length=m:=⟨_,rfl⟩
 have HS:Hid (∀w,Calls Tryz.prog 45 #[adV false S] w (NewN w m1 (adBytes false S))):=Lib.hid fun w=>(rbytes_any false S w).mono fun _ _ h=>h.n hm1 (adBytes_isb hS false)
 have HT:Hid (∀w,Calls Tryz.prog 45 #[adV t T] w (NewN w m2 (adBytes t T))):=Lib.hid fun w=>(rbytes_any t T w).mono fun _ _ h=>h.n hm2 (adBytes_isb hT t)
 have HA:Hid (∀w,Calls Tryz.prog 67 #[.int .u64 a,.int .i64 2] w (NewN w 2 (be2 a))):=Lib.hid fun w=>by
  have:=refput_any 2 a w (by decide) ha.1 (by omega)
  rw[refPut2] at this
  exact this.mono fun _ _ h=>h.n rfl (be2_bytes _)
 have HB:Hid (∀w,Calls Tryz.prog 67 #[.int .u64 b,.int .i64 2] w (NewN w 2 (be2 b))):=Lib.hid fun w=>by
  have:=refput_any 2 b w (by decide) hb.1 (by omega)
  rw[refPut2] at this
  exact this.mono fun _ _ h=>h.n rfl (be2_bytes _)
 have HPP:=Lib.hid hp
 have hwa:IntKind.u64.wrap a=a:=by rw[IntKind.wrap_u64];omega
 have hwb:IntKind.u64.wrap b=b:=by rw[IntKind.wrap_u64];omega
 rw[hm1] at HN1
 rw[hm2] at HN2
 generalize adBytes false S=A1 at*
 generalize adBytes t T=A2 at*
 obtain⟨LL,hLL⟩:∃LL,[4]++A1++A2++[p]++be2 a++be2 b=LL:=⟨_,rfl⟩
 rw[hLL]
 have HLL:=Lib.hid hLL
 clear hLL hr ha hb hp hm1 hm2 hS hT
 unfold kyC adV at*
 go_enter Tryz.func25,Tryz.ntmps25
 go_wp2_with fail
 refine Calls.later (HR _) ?_
 intro x
 have h1:x.world.heap[w.heap.size]? =some (.cells (kyC false S t T p a b) 38 (0,0)):=(x.below.block _ (by simp)).trans (heap_alloc_new w (.cells (kyC false S t T p a b) 38))
 have hBx:Below w.heap.size w x.world:=Below.lat (Below.all (Below.refl _ _) _)
 have hc0:x.world.cell? ⟨w.heap.size,0,none⟩=some (.bool false):=by rw[cell_of_row _ _ _ _ _ _ h1];rfl
 have hlx:w.heap.size<x.world.heap.size:=(Array.getElem?_eq_some_iff.1 h1).1
 have R0:Hid (RBy w (.cells (kyC false S t T p a b) 38 (0,0)) (some ⟨x.world.heap.size,0,none⟩) 1 1 [4] (x.world.alloc (.cells #[.int .u8 4] 5))):=Lib.hid ⟨(owns_row (vs:=[.int .u8 4]) (heap_alloc_new _ _) (by decide)).mono (by omega),(heap_alloc_old _ _ hlx).trans h1,Below.all hBx _⟩
 have p1:partOf (x.world.alloc (.cells #[.int .u8 4] 5)) w.heap.size 0 17=#[.bool false,.int .u8 (S 0),.int .u8 (S 1),.int .u8 (S 2),.int .u8 (S 3),.int .u8 (S 4),.int .u8 (S 5),.int .u8 (S 6),.int .u8 (S 7),.int .u8 (S 8),.int .u8 (S 9),.int .u8 (S 10),.int .u8 (S 11),.int .u8 (S 12),.int .u8 (S 13),.int .u8 (S 14),.int .u8 (S 15)]:=by rw[partOf_row _ _ _ _ _ _ _ R0.out.box];simp[kyC]
 clear h1 HR
 go_wp2_with fail
 obtain⟨ox,hox⟩:∃o,o=some (⟨x.world.heap.size,0,none⟩:Addr):=⟨_,rfl⟩
 rw[←hox] at R0⊢
 clear hox hBx hc0 hlx p1
 generalize x.world.alloc _=w0 at*
 refine Calls.mono (HS.out _) ?_
 rintro e w1 ⟨oa,ca,rfl,hr1,hb1⟩
 have R1:=Lib.hid (R0.out.go hb1)
 have D1:=Lib.hid hr1
 clear hr1 hb1 R0
 go_wp2_with (at_builtin;refine Stopped.of ?_)
 refine Stopped.mk ?_
 refine wpList_append_reads _ rfl _ _ 22 rfl 5 (w.heap.size+1) Tryz.underlying22 infoU8 _ _ _ _ rfl R1.out.own _ m1 _ A1 rfl D1.out (by have:=HN1.out;omega) R1.out.lt ?_
 intro oa2 cap2 w2 ho hg hd
 have R2:=Lib.hid (R1.out.add ho hg)
 clear ho hg hd R1
 have p2:partOf w2 w.heap.size 17 17=#[.bool t,.int .u8 (T 0),.int .u8 (T 1),.int .u8 (T 2),.int .u8 (T 3),.int .u8 (T 4),.int .u8 (T 5),.int .u8 (T 6),.int .u8 (T 7),.int .u8 (T 8),.int .u8 (T 9),.int .u8 (T 10),.int .u8 (T 11),.int .u8 (T 12),.int .u8 (T 13),.int .u8 (T 14),.int .u8 (T 15)]:=by rw[partOf_row _ _ _ _ _ _ _ R2.out.box];simp[kyC]
 have l2:=R2.out.lt
 go_wp2_with fail
 refine Calls.mono (HT.out _) ?_
 rintro e w3 ⟨ob,cb,rfl,hr3,hb3⟩
 have R3:=Lib.hid (R2.out.go hb3)
 have D3:=Lib.hid hr3
 clear hr3 hb3 R2 p2 l2
 go_wp2_with (at_builtin;refine Stopped.of ?_)
 refine Stopped.mk ?_
 refine wpList_append_reads _ rfl _ _ 22 rfl 5 (w.heap.size+1) Tryz.underlying22 infoU8 _ _ _ _ rfl R3.out.own _ m2 _ A2 rfl D3.out (by have:=HN1.out;have:=HN2.out;omega) R3.out.lt ?_
 intro oa4 cap4 w4 ho hg hd
 have R4:=Lib.hid (R3.out.add ho hg)
 clear ho hg hd R3
 have c34:w4.cell? ⟨w.heap.size,34,none⟩=some (.int .u8 p):=cell_of_row _ _ 34 _ _ (0,0) R4.out.box
 have l4:=R4.out.lt
 have R5:=Lib.hid (R4.out.go (Below.all (Below.refl _ _) (.cells #[.int .u8 p] 5)))
 have D5:=Lib.hid (reads_row1 w4 p HPP.out 5)
 clear R4
 go_wp2_with (at_builtin;refine Stopped.of ?_)
 refine Stopped.mk ?_
 refine wpList_append_reads _ rfl _ _ 22 rfl 5 (w.heap.size+1) Tryz.underlying22 infoU8 _ _ _ _ rfl R5.out.own _ 1 _ [p] rfl D5.out (by have:=HN1.out;have:=HN2.out;omega) R5.out.lt ?_
 intro oa6 cap6 w6 ho hg hd
 have R6:=Lib.hid (R5.out.add ho hg)
 clear ho hg hd R5
 have c35:w6.cell? ⟨w.heap.size,35,none⟩=some (.int .u16 a):=cell_of_row _ _ 35 _ _ (0,0) R6.out.box
 have l6:=R6.out.lt
 clear c34 l4
 go_wp2_with fail
 refine Calls.mono (HA.out _) ?_
 rintro e w7 ⟨oc,cc,rfl,hr7,hb7⟩
 have R7:=Lib.hid (R6.out.go hb7)
 have D7:=Lib.hid hr7
 clear hr7 hb7 R6 c35 l6
 go_wp2_with (at_builtin;refine Stopped.of ?_)
 refine Stopped.mk ?_
 refine wpList_append_reads _ rfl _ _ 22 rfl 5 (w.heap.size+1) Tryz.underlying22 infoU8 _ _ _ _ rfl R7.out.own _ 2 _ (be2 a) rfl D7.out (by have:=HN1.out;have:=HN2.out;omega) R7.out.lt ?_
 intro oa8 cap8 w8 ho hg hd
 have R8:=Lib.hid (R7.out.add ho hg)
 clear ho hg hd R7
 have c36:w8.cell? ⟨w.heap.size,36,none⟩=some (.int .u16 b):=cell_of_row _ _ 36 _ _ (0,0) R8.out.box
 have l8:=R8.out.lt
 go_wp2_with fail
 refine Calls.mono (HB.out _) ?_
 rintro e w9 ⟨od,cd,rfl,hr9,hb9⟩
 have R9:=Lib.hid (R8.out.go hb9)
 have D9:=Lib.hid hr9
 clear hr9 hb9 R8 c36 l8
 go_wp2_with (at_builtin;refine Stopped.of ?_)
 refine Stopped.mk ?_
 refine wpList_append_reads _ rfl _ _ 22 rfl 5 (w.heap.size+1) Tryz.underlying22 infoU8 _ _ _ _ rfl R9.out.own _ 2 _ (be2 b) rfl D9.out (by have:=HN1.out;have:=HN2.out;omega) R9.out.lt ?_
 intro oa10 cap10 w10 ho hg hd
 have R10:=Lib.hid (R9.out.add ho hg)
 clear ho hg hd R9
 have RF:Hid (RBy w (.cells (kyC false S t T p a b) 38 (0,0)) oa10 (1+m1+m2+1+2+2) cap10 LL w10):=Lib.hid (by rw[←HLL.out];exact R10.out)
 clear R10
 go_wp2_with fail
 go_ret
 exact .mk (RF.out.own.mono (Nat.le_succ _)) RF.out.len.symm RF.out.bel
theorem rkbytes_six (S:Nat→Int)(t:Bool)(T:Nat→Int)(p a b:Int)(hr:kyRight ⟨true,S,t,T,p,a,b⟩=true)(hS:U8 S)(hT:U8 T)(hp:0≤p∧p<256)(ha:0≤a∧a<65536)(hb:0≤b∧b<65536)(w:World):
 Calls Tryz.prog 25 #[.agg (kyC true S t T p a b)] w (NewBytes w ([6]++adBytes true S++adBytes t T++[p]++be2 a++be2 b)):=by
 have HR:=fun w=>rkright_any true S t T p a b w
 rw[hr] at HR
 have HN1:Hid ((adBytes true S).length≤16):=Lib.hid (by rw[adBytes_len];decide)
 have HN2:Hid ((adBytes t T).length≤16):=Lib.hid (by rw[adBytes_len];cases t<;>decide)
 obtain⟨m1,hm1⟩:∃m,(adBytes true S).length=m:=⟨_,rfl⟩
 obtain⟨m2,hm2⟩:∃m,(adBytes t T).length=m:=⟨_,rfl⟩
 have HS:Hid (∀w,Calls Tryz.prog 45 #[adV true S] w (NewN w m1 (adBytes true S))):=Lib.hid fun w=>(rbytes_any true S w).mono fun _ _ h=>h.n hm1 (adBytes_isb hS true)
 have HT:Hid (∀w,Calls Tryz.prog 45 #[adV t T] w (NewN w m2 (adBytes t T))):=Lib.hid fun w=>(rbytes_any t T w).mono fun _ _ h=>h.n hm2 (adBytes_isb hT t)
 have HA:Hid (∀w,Calls Tryz.prog 67 #[.int .u64 a,.int .i64 2] w (NewN w 2 (be2 a))):=Lib.hid fun w=>by
  have:=refput_any 2 a w (by decide) ha.1 (by omega)
  rw[refPut2] at this
  exact this.mono fun _ _ h=>h.n rfl (be2_bytes _)
 have HB:Hid (∀w,Calls Tryz.prog 67 #[.int .u64 b,.int .i64 2] w (NewN w 2 (be2 b))):=Lib.hid fun w=>by
  have:=refput_any 2 b w (by decide) hb.1 (by omega)
  rw[refPut2] at this
  exact this.mono fun _ _ h=>h.n rfl (be2_bytes _)
 have HPP:=Lib.hid hp
 have hwa:IntKind.u64.wrap a=a:=by rw[IntKind.wrap_u64];omega
 have hwb:IntKind.u64.wrap b=b:=by rw[IntKind.wrap_u64];omega
 rw[hm1] at HN1
 rw[hm2] at HN2
 generalize adBytes true S=A1 at*
 generalize adBytes t T=A2 at*
 obtain⟨LL,hLL⟩:∃LL,[6]++A1++A2++[p]++be2 a++be2 b=LL:=⟨_,rfl⟩
 rw[hLL]
 have HLL:=Lib.hid hLL
 clear hLL hr ha hb hp hm1 hm2 hS hT
 unfold kyC adV at*
 go_enter Tryz.func25,Tryz.ntmps25
 go_wp2_with fail
 refine Calls.later (HR _) ?_
 intro x
 have h1:x.world.heap[w.heap.size]? =some (.cells (kyC true S t T p a b) 38 (0,0)):=(x.below.block _ (by simp)).trans (heap_alloc_new w (.cells (kyC true S t T p a b) 38))
 have hBx:Below w.heap.size w x.world:=Below.lat (Below.all (Below.refl _ _) _)
 have hc0:x.world.cell? ⟨w.heap.size,0,none⟩=some (.bool true):=by rw[cell_of_row _ _ _ _ _ _ h1];rfl
 have hlx:w.heap.size<x.world.heap.size:=(Array.getElem?_eq_some_iff.1 h1).1
 have R0:Hid (RBy w (.cells (kyC true S t T p a b) 38 (0,0)) (some ⟨x.world.heap.size,0,none⟩) 1 1 [6] (x.world.alloc (.cells #[.int .u8 6] 5))):=Lib.hid ⟨(owns_row (vs:=[.int .u8 6]) (heap_alloc_new _ _) (by decide)).mono (by omega),(heap_alloc_old _ _ hlx).trans h1,Below.all hBx _⟩
 have p1:partOf (x.world.alloc (.cells #[.int .u8 6] 5)) w.heap.size 0 17=#[.bool true,.int .u8 (S 0),.int .u8 (S 1),.int .u8 (S 2),.int .u8 (S 3),.int .u8 (S 4),.int .u8 (S 5),.int .u8 (S 6),.int .u8 (S 7),.int .u8 (S 8),.int .u8 (S 9),.int .u8 (S 10),.int .u8 (S 11),.int .u8 (S 12),.int .u8 (S 13),.int .u8 (S 14),.int .u8 (S 15)]:=by rw[partOf_row _ _ _ _ _ _ _ R0.out.box];simp[kyC]
 clear h1 HR
 go_wp2_with fail
 obtain⟨ox,hox⟩:∃o,o=some (⟨x.world.heap.size,0,none⟩:Addr):=⟨_,rfl⟩
 rw[←hox] at R0⊢
 clear hox hBx hc0 hlx p1
 generalize x.world.alloc _=w0 at*
 refine Calls.mono (HS.out _) ?_
 rintro e w1 ⟨oa,ca,rfl,hr1,hb1⟩
 have R1:=Lib.hid (R0.out.go hb1)
 have D1:=Lib.hid hr1
 clear hr1 hb1 R0
 go_wp2_with (at_builtin;refine Stopped.of ?_)
 refine Stopped.mk ?_
 refine wpList_append_reads _ rfl _ _ 22 rfl 5 (w.heap.size+1) Tryz.underlying22 infoU8 _ _ _ _ rfl R1.out.own _ m1 _ A1 rfl D1.out (by have:=HN1.out;omega) R1.out.lt ?_
 intro oa2 cap2 w2 ho hg hd
 have R2:=Lib.hid (R1.out.add ho hg)
 clear ho hg hd R1
 have p2:partOf w2 w.heap.size 17 17=#[.bool t,.int .u8 (T 0),.int .u8 (T 1),.int .u8 (T 2),.int .u8 (T 3),.int .u8 (T 4),.int .u8 (T 5),.int .u8 (T 6),.int .u8 (T 7),.int .u8 (T 8),.int .u8 (T 9),.int .u8 (T 10),.int .u8 (T 11),.int .u8 (T 12),.int .u8 (T 13),.int .u8 (T 14),.int .u8 (T 15)]:=by rw[partOf_row _ _ _ _ _ _ _ R2.out.box];simp[kyC]
 have l2:=R2.out.lt
 go_wp2_with fail
 refine Calls.mono (HT.out _) ?_
 rintro e w3 ⟨ob,cb,rfl,hr3,hb3⟩
 have R3:=Lib.hid (R2.out.go hb3)
 have D3:=Lib.hid hr3
 clear hr3 hb3 R2 p2 l2
 go_wp2_with (at_builtin;refine Stopped.of ?_)
 refine Stopped.mk ?_
 refine wpList_append_reads _ rfl _ _ 22 rfl 5 (w.heap.size+1) Tryz.underlying22 infoU8 _ _ _ _ rfl R3.out.own _ m2 _ A2 rfl D3.out (by have:=HN1.out;have:=HN2.out;omega) R3.out.lt ?_
 intro oa4 cap4 w4 ho hg hd
 have R4:=Lib.hid (R3.out.add ho hg)
 clear ho hg hd R3
 have c34:w4.cell? ⟨w.heap.size,34,none⟩=some (.int .u8 p):=cell_of_row _ _ 34 _ _ (0,0) R4.out.box
 have l4:=R4.out.lt
 have R5:=Lib.hid (R4.out.go (Below.all (Below.refl _ _) (.cells #[.int .u8 p] 5)))
 have D5:=Lib.hid (reads_row1 w4 p HPP.out 5)
 clear R4
 go_wp2_with (at_builtin;refine Stopped.of ?_)
 refine Stopped.mk ?_
 refine wpList_append_reads _ rfl _ _ 22 rfl 5 (w.heap.size+1) Tryz.underlying22 infoU8 _ _ _ _ rfl R5.out.own _ 1 _ [p] rfl D5.out (by have:=HN1.out;have:=HN2.out;omega) R5.out.lt ?_
 intro oa6 cap6 w6 ho hg hd
 have R6:=Lib.hid (R5.out.add ho hg)
 clear ho hg hd R5
 have c35:w6.cell? ⟨w.heap.size,35,none⟩=some (.int .u16 a):=cell_of_row _ _ 35 _ _ (0,0) R6.out.box
 have l6:=R6.out.lt
 clear c34 l4
 go_wp2_with fail
 refine Calls.mono (HA.out _) ?_
 rintro e w7 ⟨oc,cc,rfl,hr7,hb7⟩
 have R7:=Lib.hid (R6.out.go hb7)
 have D7:=Lib.hid hr7
 clear hr7 hb7 R6 c35 l6
 go_wp2_with (at_builtin;refine Stopped.of ?_)
 refine Stopped.mk ?_
 refine wpList_append_reads _ rfl _ _ 22 rfl 5 (w.heap.size+1) Tryz.underlying22 infoU8 _ _ _ _ rfl R7.out.own _ 2 _ (be2 a) rfl D7.out (by have:=HN1.out;have:=HN2.out;omega) R7.out.lt ?_
 intro oa8 cap8 w8 ho hg hd
 have R8:=Lib.hid (R7.out.add ho hg)
 clear ho hg hd R7
 have c36:w8.cell? ⟨w.heap.size,36,none⟩=some (.int .u16 b):=cell_of_row _ _ 36 _ _ (0,0) R8.out.box
 have l8:=R8.out.lt
 go_wp2_with fail
 refine Calls.mono (HB.out _) ?_
 rintro e w9 ⟨od,cd,rfl,hr9,hb9⟩
 have R9:=Lib.hid (R8.out.go hb9)
 have D9:=Lib.hid hr9
 clear hr9 hb9 R8 c36 l8
 go_wp2_with (at_builtin;refine Stopped.of ?_)
 refine Stopped.mk ?_
 refine wpList_append_reads _ rfl _ _ 22 rfl 5 (w.heap.size+1) Tryz.underlying22 infoU8 _ _ _ _ rfl R9.out.own _ 2 _ (be2 b) rfl D9.out (by have:=HN1.out;have:=HN2.out;omega) R9.out.lt ?_
 intro oa10 cap10 w10 ho hg hd
 have R10:=Lib.hid (R9.out.add ho hg)
 clear ho hg hd R9
 have RF:Hid (RBy w (.cells (kyC true S t T p a b) 38 (0,0)) oa10 (1+m1+m2+1+2+2) cap10 LL w10):=Lib.hid (by rw[←HLL.out];exact R10.out)
 clear R10
 go_wp2_with fail
 go_ret
 exact .mk (RF.out.own.mono (Nat.le_succ _)) RF.out.len.symm RF.out.bel
theorem rkbytes_any (k:Ky)(hk:KyOk k)(w:World):Calls Tryz.prog 25 #[.agg (kyV k)] w (NewBytes w (kyBytes k)):=by
 obtain⟨s,S,t,T,p,a,b⟩:=k
 cases hr:kyRight ⟨s,S,t,T,p,a,b⟩ with
 |false=>exact rkbytes_no s S t T p a b hr w
 |true=>
  have h:kyBytes ⟨s,S,t,T,p,a,b⟩=[if s then 6 else 4]++adBytes s S++adBytes t T++[p]++be2 a++be2 b:=by unfold kyBytes;rw[if_pos hr]
  rw[h]
  cases s
  ·exact rkbytes_four S t T p a b hr hk.S hk.T hk.p hk.a hk.b w
  ·exact rkbytes_six S t T p a b hr hk.S hk.T hk.p hk.a hk.b w
end
end Go.Proofs.YtkgjbipfhhjlpaaGreatDoor
