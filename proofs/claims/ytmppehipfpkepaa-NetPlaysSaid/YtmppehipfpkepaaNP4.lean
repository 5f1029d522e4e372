/- The document's Bc: its state in memory; link, Up, is. -/
import Derived.Test.YtmppehipfpkepaaNRN
import Derived.Test.YtmppehipfpkepaaN27
set_option linter.unusedVariables false
namespace Go.Proofs.Ytmppehipfpkepaa.Dm
open Go.Dm
set_option maxHeartbeats 16000000
set_option maxRecDepth 20000
structure As where
 R:List Int
 l:List AX
 u:List A8
 late:Int
 now:Int
 ic:List Bool
 st:List Bool
 ks:List Int
 w:List D6
structure Bh where
 rv:Value
 lv:Value
 uv:Value
 cb:Nat
 wv:Value
def DG (st:List Bool)(ks:List Int)(wv:Value):List Value:=st.map Value.bool ++ (ks.map (Value.int .i64) ++ [wv])
def UT (b:Nat)(l:List Bool):Value:= .slice (some ⟨b,0,none⟩) l.length l.length
def rN (l:List Bool):Option BB:=some (.cells true 1 (Bd.flat l))
theorem mv {b:Nat}{l:List Bool}(h:l≠ []):UT b l=AK b l:=by
 cases l with
 |nil=>exact absurd rfl h
 |cons a l=>rfl
theorem mM {l:List Bool}(h:l≠ []):rN l=AO Bd l:=by
 cases l with
 |nil=>exact absurd rfl h
 |cons a l=>rfl
@[go_sem] theorem D4 {ρ:Nat→Nat}{b:Nat}{l:List Bool}:Ad ρ (UT b l)=UT (ρ b) l:=rfl
def Az (v:Bh)(s:As):Option BB:=some (.cells true 0 (v.rv :: v.lv :: v.uv :: .int .i64 s.late :: .int .u64 s.now :: UT v.cb s.ic :: DG s.st s.ks v.wv))
structure CD (hp:Hp) (n:Nat) (v:Bh) (s:As):Prop where
 h:hp n=Az v s
 R:BU Ab hp v.rv s.R
 l:BU An hp v.lv s.l
 u:BU Ap hp v.uv s.u
 c:hp v.cb=rN s.ic
 w:BU Be hp v.wv s.w
 sl:s.st.length=25
 kl:s.ks.length=625
 il:s.ic.length=s.l.length
 ll:s.l.length≤48
 ul:s.u.length≤64
 rl:∀n∈s.R,Gr.BH n=true
 lr:∀x∈s.l,Gr.BH x.A=true∧Gr.BH x.B=true
 wl:s.w.length≤1000000
section
variable {st:List Bool} {ks:List Int} {wv:Value}
theorem qd (h:st.length=25){i:Nat}(hi:i < 25):((DG st ks wv)[i]?).getD undef= .bool ((st[i]?).getD false):=by
 unfold DG
 rw [List.getElem?_append_left (by rw [List.length_map];omega)]
 exact EJ (by omega)
theorem OW {x0 x1 x2 x3 x4 x5:Value}(h:st.length=25){i:Nat}(hi:i < 25):((x0 :: x1 :: x2 :: x3 :: x4 :: x5 :: DG st ks wv)[6+i]?).getD undef= .bool ((st[i]?).getD false):=by
 rw [Nat.add_comm 6 i]
 exact qd h hi
theorem Md (h:st.length=25)(hk:ks.length=625):((DG st ks wv)[650]?).getD undef=wv:=by
 unfold DG
 rw [List.getElem?_append_right (by rw [List.length_map];omega),List.getElem?_append_right (by rw [List.length_map,List.length_map];omega),List.length_map,List.length_map,h,hk]
 rfl
theorem sX (h:st.length=25)(hk:ks.length=625){j:Nat}(hj:j < 625):((DG st ks wv)[25+j]?).getD undef= .int .i64 ((ks[j]?).getD 0):=by
 unfold DG
 rw [List.getElem?_append_right (by rw [List.length_map];omega),List.length_map,h,Nat.add_sub_cancel_left,List.getElem?_append_left (by rw [List.length_map];omega)]
 exact Fy (by omega)
theorem eQ {x0 x1 x2 x3 x4 x5:Value}(h:st.length=25)(hk:ks.length=625){j:Nat}(hj:j < 625):((x0 :: x1 :: x2 :: x3 :: x4 :: x5 :: DG st ks wv)[31+j]?).getD undef= .int .i64 ((ks[j]?).getD 0):=by
 rw [show 31+j=(25+j)+6 by omega]
 exact sX h hk hj
theorem Cz (h:st.length=25)(hk:ks.length=625):(DG st ks wv).length=651:=by
 unfold DG;simp [h,hk]
theorem mq {st st':List Bool}{ks ks':List Int}{wv wv':Value}(h:st.length=25)(h':st'.length=25)(hk:ks.length=625)(hk':ks'.length=625)(e:DG st ks wv=DG st' ks' wv'):st=st'∧ks=ks'∧wv=wv':=by
 unfold DG at e
 obtain ⟨e1,e2⟩:=List.append_inj e (by rw [List.length_map,List.length_map,h,h'])
 obtain ⟨e3,e4⟩:=List.append_inj e2 (by rw [List.length_map,List.length_map,hk,hk'])
 refine ⟨?_, ?_,by simpa using e4⟩
 ·have:=congrArg (List.map Cg) e1
  rw [Gr.LL,Gr.LL] at this;exact this
 ·have:=congrArg (List.map intOf) e3
  rw [Gr.HT,Gr.HT] at this;exact this
theorem Yq (h:st.length=25){i:Nat}(hi:i < 25)(b:Bool):Am (DG st ks wv) i [.bool b] = DG (st.set i b) ks wv:=by
 unfold DG
 rw [JY (by simp;omega),List.set_append_left _ _ (by rw [List.length_map];omega),←List.map_set]
theorem Qn {x0 x1 x2 x3 x4 x5:Value}(h:st.length=25){i:Nat}(hi:i < 25)(b:Bool):Am (x0 :: x1 :: x2 :: x3 :: x4 :: x5 :: DG st ks wv) (6+i) [.bool b] = x0 :: x1 :: x2 :: x3 :: x4 :: x5 :: DG (st.set i b) ks wv:=by
 rw [Nat.add_comm 6 i,←Yq h hi];rfl
theorem Nl (h:st.length=25)(hk:ks.length=625)(v:Value):Am (DG st ks wv) 650 [v] = DG st ks v:=by
 unfold DG
 rw [JY (by simp;omega),List.set_append_right _ _ (by rw [List.length_map];omega),List.set_append_right _ _ (by rw [List.length_map,List.length_map];omega),List.length_map,List.length_map,h,hk]
 rfl
theorem Yt (h:st.length=25)(hk:ks.length=625){j:Nat}(hj:j < 625)(x:Int):Am (DG st ks wv) (25+j) [.int .i64 x] = DG st (ks.set j x) wv:=by
 unfold DG
 rw [JY (by simp;omega),List.set_append_right _ _ (by rw [List.length_map];omega),List.length_map,h,Nat.add_sub_cancel_left,List.set_append_left _ _ (by rw [List.length_map];omega),←List.map_set]
theorem aK {x0 x1 x2 x3 x4 x5:Value}(h:st.length=25)(hk:ks.length=625){j:Nat}(hj:j < 625)(x:Int):Am (x0 :: x1 :: x2 :: x3 :: x4 :: x5 :: DG st ks wv) (31+j) [.int .i64 x] = x0 :: x1 :: x2 :: x3 :: x4 :: x5 :: DG st (ks.set j x) wv:=by
 rw [show 31+j=(25+j)+6 by omega,←Yt h hk hj];rfl
end
theorem CD.cS {hp:Hp}{n:Nat}{v:Bh}{s:As}(h:CD hp n v s):BU Bd hp (UT v.cb s.ic) s.ic:=by
 have e1:Bd.size=1:=rfl
 have e2:=Bn.Bt (E:=Bd) s.ic
 have:=h.il
 have:=h.ll
 refine .rows v.cb 0 s.ic.length true _ s.ic h.c ?_ ?_ (Nat.le_refl _) (by omega)
 ·rw [List.drop_zero,←e2,List.take_length]
 ·rw [Nat.zero_add,e2];exact Nat.le_refl _
theorem CD.fn {hp:Hp}{n:Nat}{v v':Bh}{s s':As}(h:CD hp n v s)(g:CD hp n v' s'):v=v'∧s=s':=by
 have e:=h.h.symm.trans g.h
 simp only [Az,Option.some.injEq,BB.cells.injEq,List.cons.injEq,Value.int.injEq,true_and] at e
 obtain ⟨e1,e2,e3,e4,e5,e6,e7⟩:=e
 obtain ⟨t1,t2,t3⟩:=mq h.sl g.sl h.kl g.kl e7
 have r1:=h.R.rd
 rw [e1,g.R.rd] at r1
 have r2:=h.l.rd
 rw [e2,g.l.rd] at r2
 have r3:=h.u.rd
 rw [e3,g.u.rd] at r3
 have r4:=h.w.rd
 rw [t3,g.w.rd] at r4
 have r5:=h.cS.rd
 rw [e6,g.cS.rd] at r5
 have r6:v.cb=v'.cb:=by
  simp only [UT,Value.slice.injEq,Option.some.injEq,Addr.mk.injEq] at e6
  exact e6.1.1
 obtain ⟨rv,lv,uv,cb,wv⟩:=v
 obtain ⟨rv',lv',uv',cb',wv'⟩:=v'
 obtain ⟨R,l,u,late,now,ic,st,ks,w⟩:=s
 obtain ⟨R',l',u',late',now',ic',st',ks',w'⟩:=s'
 simp only at *
 subst e1 e2 e3 e4 e5 t1 t2 t3 r1 r2 r3 r4 r5 r6
 exact ⟨rfl,rfl⟩
open Classical in
noncomputable def IH (hp:Hp)(n:Nat):As:=if h:∃s v,CD hp n v s then h.choose else ⟨[], [], [],0,0, [], [], [], []⟩
open Classical in
noncomputable def OA (hp:Hp)(n:Nat):Bh:=if h:∃v s,CD hp n v s then h.choose else ⟨undef,undef,undef,0,undef⟩
theorem CD.s {hp:Hp}{n:Nat}{v:Bh}{s:As}(h:CD hp n v s):IH hp n=s:=by
 unfold IH
 have e:∃s v,CD hp n v s:=⟨s,v,h⟩
 rw [dif_pos e]
 obtain ⟨v',h'⟩:=e.choose_spec
 exact (h'.fn h).2
theorem CD.v {hp:Hp}{n:Nat}{v:Bh}{s:As}(h:CD hp n v s):OA hp n=v:=by
 unfold OA
 have e:∃v s,CD hp n v s:=⟨v,s,h⟩
 rw [dif_pos e]
 obtain ⟨s',h'⟩:=e.choose_spec
 exact (h'.fn h).1
def GM (hp:Hp)(n:Nat):Prop:= ∃v s,CD hp n v s
theorem CD.is {hp:Hp}{n:Nat}{v:Bh}{s:As}(h:CD hp n v s):GM hp n=True:=eq_true ⟨v,s,h⟩
theorem CU {ρ:Nat→Nat}{st:List Bool}{ks:List Int}{wv:Value}:Ag ρ (DG st ks wv)=DG st ks (Ad ρ wv):=by
 unfold DG
 rw [ID,ID]
 have e1:Ag ρ (st.map Value.bool)=st.map Value.bool:=by rw [IE,List.map_map];rfl
 have e2:Ag ρ (ks.map (Value.int .i64))=ks.map (Value.int .i64):=by rw [IE,List.map_map];rfl
 rw [e1,e2];rfl
theorem CD.qG {hp:Hp}{n top:Nat}{v:Bh}{s:As}(h:CD hp n v s)(hcl:Cl hp top):v.cb < top:=hcl.lt _ _ h.c
/-- rows stay while a block of another kind is written -/
theorem O8 {α:Type}{E:Bn α}{hp:Hp}{n:Nat}{v:Value}{l:List α}{vs:List Value}{o:Option BB}(h:BU E hp v l)(hn:hp n=some (.cells true 0 vs))(hE:E.size≠0):BU E (hp.set n o) v l:=by
 cases h with
 |nils=>exact .nils
 |emp=>exact .emp
 |rows b o' c rw vs l hb hv ho hc hl=>
  refine .rows b o' c rw vs l ((AH _ _ _ _ fun e=> ?_).trans hb) hv ho hc hl
  rw [e,hn] at hb
  exact hE (EB hb).symm
theorem iK {α:Type}{E:Bn α}{hp:Hp}{x:Nat}{v:Value}{l:List α}{o:Option BB}(h:BU E hp v l)(hx:hp x=none):BU E (hp.set x o) v l:=by
 cases h with
 |nils=>exact .nils
 |emp=>exact .emp
 |rows b o' c rw vs l hb hv ho hc hl=>
  refine .rows b o' c rw vs l ((AH _ _ _ _ fun e=> ?_).trans hb) hv ho hc hl
  rw [e,hx] at hb
  cases hb
/-- memory below a bound is as it was -/
theorem CD.BT {hp hp':Hp}{n top:Nat}{v:Bh}{s:As}(h:CD hp n v s)(hcl:Cl hp top)(hk:AE top [] hp' hp):CD hp' n v s:=by
 have k:=hk.nil
 have hn:n < top:=hcl.lt _ _ h.h
 refine ⟨(k _ hn).trans h.h,h.R.BT (h.R.low hcl) hk,h.l.BT (h.l.low hcl) hk,h.u.BT (h.u.low hcl) hk,(k _ (h.qG hcl)).trans h.c,h.w.BT (h.w.low hcl) hk,h.sl,h.kl,h.il,h.ll,h.ul,h.rl,h.lr,h.wl⟩
/-- the net's own block is written -/
theorem CD.tm {hp:Hp}{n:Nat}{v v':Bh}{s s':As}(h:CD hp n v s)(hp':Hp)(e:hp' n=Az v' s')(hk:∀j,j≠n→hp j≠none→hp' j=hp j)
  (e1:v'.rv=v.rv) (e2:v'.lv=v.lv) (e3:v'.uv=v.uv) (e4:v'.cb=v.cb) (s1:s'.R=s.R) (s2:s'.l=s.l) (s3:s'.u=s.u) (s4:s'.ic=s.ic)
  (hw:BU Be hp' v'.wv s'.w) (hsl:s'.st.length=25) (hkl:s'.ks.length=625) (hwl:s'.w.length≤1000000):CD hp' n v' s':=by
 have sl:∀ {α:Type} {E:Bn α} {x:Value} {l:List α},E.size≠0→BU E hp x l→BU E hp' x l:=fun {α} {E} {x} {l} hE hx=>by
  cases hx with
  |nils=>exact .nils
  |emp=>exact .emp
  |rows b o c rw vs l hb hv ho hc hl=>
   refine .rows b o c rw vs l ((hk b (fun e=> ?_) (by rw [hb];simp)).trans hb) hv ho hc hl
   rw [e,h.h] at hb
   exact hE (EB hb).symm
 refine ⟨e, ?_, ?_, ?_, ?_,hw,hsl,hkl, ?_, ?_, ?_, ?_, ?_,hwl⟩
 ·rw [e1,s1];exact sl (by decide) h.R
 ·rw [e2,s2];exact sl (by decide) h.l
 ·rw [e3,s3];exact sl (by decide) h.u
 ·rw [e4,s4]
  refine (hk _ (fun e=> ?_) (by rw [h.c];exact fun h=>by cases h)).trans h.c
  have hcc:=h.c
  rw [e,h.h] at hcc
  exact absurd (EB hcc) (by decide)
 ·rw [s4,s2];exact h.il
 ·rw [s2];exact h.ll
 ·rw [s3];exact h.ul
 ·rw [s1];exact h.rl
 ·rw [s2];exact h.lr
end Go.Proofs.Ytmppehipfpkepaa.Dm
/- The document's Bc: link, Up, is. -/
set_option linter.unusedVariables false
namespace Go.Proofs.Ytmppehipfpkepaa.Dm
open Go.Dm
set_option maxHeartbeats 16000000
set_option maxRecDepth 20000
def G30:FuncId→Bp:=Gr.nW
theorem dY:Cf Try.prog tt.get G30:=Gr.Eg
def UM (l:List AX)(a b:Int):Int:=if l.any (Gr.pr a b) then (l.findIdx (Gr.pr a b):Int) else -1
noncomputable def GP:Bp:= .pure (fun args hp=>match args with | [.pointer (some ⟨n,0,none⟩),a,b]=>GM hp n∧EO .i64 a∧EO .i64 b | _=>False) (fun args hp=>match args with | [.pointer (some ⟨n,_,_⟩),a,b]=> .int .i64 (UM (IH hp n).l (intOf a) (intOf b)) | _=>undef)
def yO (hp:Hp)(top n:Nat)(a b:Int)(i:Nat):SS:=⟨[(0, .pointer (some ⟨n,0,none⟩),true),(1, .int .i64 a,true),(2, .int .i64 b,true),(7, .int .i64 (i:Int),true)],hp.AZ [],top+0⟩
theorem tL:BK Try.prog 73 GP:=by
 refine .Gx Wv ?_ ?_
 ·intro args hp h
  match args,h with
  | [.pointer (some ⟨n,0,none⟩),a,b],_=>rfl
 intro args hp hpre top hcl hsc
 match args,hpre with
 | [.pointer (some ⟨n,0,none⟩),a,b],⟨⟨v,s,h⟩,ha,hb⟩=>
 rw [ha,hb]
 generalize intOf a=a,intOf b=b
 simp only [h.s,BA]
 have hh:=h.h
 have hl:=h.l
 have hT:=Cz (wv:=v.wv) h.sl h.kl
 have ls:=hl.low hcl
 have n0:n < top:=hcl.lt _ _ hh
 refine AL.Au BE Wv rfl 64 rfl [.tmp 6] rfl (show 3≤64 by decide) ?_
 refine CW.vc dY [0,1,2,6,7,14,62] (by kernel_rfl) ?_
 (repeat ((try refine Vc.mk' ?_);simp only [go_sem,Nat.reduceAdd]))
 refine CW.CZ (yO hp top n a b) (fun i=>i≤s.l.length∧∀j,j < i→Gr.pr a b (Aj s.l j)=false) (fun i=>s.l.length - i) 0 ⟨Nat.zero_le _,fun j hj=>absurd hj (Nat.not_lt_zero _)⟩ ?_ ?_
 ·exact (by refine BO.mk' [] hcl (by simp) (by simp) rfl (AV ?_) ?_ ?_ <;> simp [Ax,Cd,Ad,AD.nil,AE.refl,AA n0])
 ·rintro i ⟨hi,hm⟩
  by_cases hlt:i < s.l.length
  ·have hit:Gr.pr a b (Aj s.l i)=true→UM s.l a b=(i:Int):=fun hc=>by
    have h1:s.l.any (Gr.pr a b)=true:=List.any_eq_true.2 ⟨_,at_mem hlt,hc⟩
    have h2:s.l.findIdx (Gr.pr a b)=i:=by
     rw [List.findIdx_eq hlt]
     refine ⟨by rw [←Bj _ _ hlt];exact hc,fun j hj=> ?_⟩
     have:=hm j hj
     rwa [Bj _ _ (by omega)] at this
    unfold UM;rw [if_pos h1,h2]
   have miss:Gr.pr a b (Aj s.l i)=false→∀j,j < i+1→Gr.pr a b (Aj s.l j)=false:=fun hc j hj=>by
    by_cases e:j < i
    ·exact hm j e
    ·have:j=i:=by omega
     subst this;exact hc
   have hp_:Gr.pr a b (Aj s.l i)=(decide ((Aj s.l i).A=a) && decide ((Aj s.l i).B=b) || decide ((Aj s.l i).A=b) && decide ((Aj s.l i).B=a)):=rfl
   cases q1:decide ((Aj s.l i).A=a) <;> cases q2:decide ((Aj s.l i).B=b) <;> cases q3:decide ((Aj s.l i).A=b) <;> cases q4:decide ((Aj s.l i).B=a)
   all_goals
    rw [q1,q2,q3,q4] at hp_
    refine CW.vc dY [0,1,2,6,7,14,62] (by kernel_rfl) ?_
    (repeat ((try refine Vc.mk' ?_);simp only [go_sem,Nat.reduceAdd,Nat.reduceLT,hh,Az,hT,CB hl,B4 hl,Ha hl,Hg hl,HM hl,HG hl,yO,hlt,q1,q2,q3,q4]))
    first
    |exact .mk (i+1) ⟨hlt,miss hp_⟩ (by omega) ((by refine BO.mk' [] hcl (by simp) (by simp) rfl (AV ?_) ?_ ?_ <;> simp [Ax,Cd,Ad,AD.nil,AE.refl,AA n0,Av hlt hl.le]))
    | (rw [hit hp_])
  ·have hi2:i=s.l.length:=by omega
   subst hi2
   have e:UM s.l a b= -1:=by
    unfold UM
    rw [if_neg]
    intro c
    obtain ⟨x,hx,hb⟩:=List.any_eq_true.1 c
    obtain ⟨j,hj,rfl⟩:=List.getElem_of_mem hx
    have:=hm j hj
    rw [Bj _ _ hj,hb] at this;cases this
   refine CW.vc dY [0,1,2,6,7,14,62] (by kernel_rfl) ?_
   (repeat ((try refine Vc.mk' ?_);simp only [go_sem,Nat.reduceAdd,Nat.reduceLT,hh,Az,hT,CB hl,yO,Nat.lt_irrefl,decide_false,e]))
end Go.Proofs.Ytmppehipfpkepaa.Dm
/- The document's Bc: Up, is. -/
set_option linter.unusedVariables false
namespace Go.Proofs.Ytmppehipfpkepaa.Dm
open Go.Dm
set_option maxHeartbeats 16000000
set_option maxRecDepth 20000
noncomputable def G31:FuncId→Bp:=Bu G30 73 GP
theorem Jo:Cf Try.prog tt.get G31:=dY.add tL
theorem ZI:G31 73=GP:=rfl
def Mz (s:As)(a b:Int):Bool:=if s.l.any (Gr.pr a b) then (!((s.ic[s.l.findIdx (Gr.pr a b)]?).getD false) && (!((s.st[a.toNat]?).getD false) && !((s.st[b.toNat]?).getD false))) else false
noncomputable def Ft:Bp:= .pure (fun args hp=>match args with | [.pointer (some ⟨n,0,none⟩),a,b]=>GM hp n∧EO .i64 a∧EO .i64 b | _=>False) (fun args hp=>match args with | [.pointer (some ⟨n,_,_⟩),a,b]=> .bool (Mz (IH hp n) (intOf a) (intOf b)) | _=>undef)
theorem JE {s:List AX}(h:∀x∈s,Gr.BH x.A=true∧Gr.BH x.B=true){a b:Int}(hp:s.any (Gr.pr a b)=true):(1≤a∧a≤24)∧1≤b∧b≤24:=by
 obtain ⟨x,hx,hpr⟩:=List.any_eq_true.1 hp
 obtain ⟨hA,hB⟩:=h x hx
 simp only [Gr.BH,Bool.and_eq_true,decide_eq_true_eq] at hA hB
 simp only [Gr.pr,Bool.or_eq_true,Bool.and_eq_true,decide_eq_true_eq] at hpr
 omega
theorem M5 {s:List AX}{a b:Int}(hp:s.any (Gr.pr a b)=true):s.findIdx (Gr.pr a b) < s.length:=by
 rw [List.findIdx_lt_length]
 obtain ⟨x,hx,h⟩:=List.any_eq_true.1 hp
 exact ⟨x,hx,h⟩
theorem pB:BK Try.prog 52 Ft:=by
 refine .Gx YK ?_ ?_
 ·intro args hp h
  match args,h with
  | [.pointer (some ⟨n,0,none⟩),a,b],_=>rfl
 intro args hp hpre top hcl hsc
 match args,hpre with
 | [.pointer (some ⟨n,0,none⟩),a,b],⟨⟨v,s,h⟩,ha,hb⟩=>
 rw [ha,hb]
 generalize intOf a=a,intOf b=b
 simp only [h.s,BA]
 have hh:=h.h
 have his:=h.is
 have hsS:=h.s
 have hT:=Cz (wv:=v.wv) h.sl h.kl
 refine AL.Au BE YK rfl 42 rfl [.tmp 6] rfl (show 3≤42 by decide) ?_
 cases c:s.l.any (Gr.pr a b) with
 |false=>
  have e:UM s.l a b= -1:=by unfold UM;rw [if_neg (by rw [c];simp)]
  have e2:Mz s a b=false:=by unfold Mz;rw [if_neg (by rw [c];simp)]
  refine CW.vc Jo [0,1,2,6,7] (by kernel_rfl) ?_
  (repeat ((try refine Vc.mk' ?_);simp only [go_sem,Nat.reduceAdd,Int.reduceLT,ZI,GP,his,hsS,e,e2]))
 |true=>
  obtain ⟨⟨a1,a2⟩,b1,b2⟩:=JE h.lr c
  have hfl:=M5 c
  have hil:=h.il
  have e:UM s.l a b=((s.l.findIdx (Gr.pr a b):Nat):Int):=by unfold UM;rw [if_pos c]
  have e2:Mz s a b=(!((s.ic[s.l.findIdx (Gr.pr a b)]?).getD false) && (!((s.st[a.toNat]?).getD false) && !((s.st[b.toNat]?).getD false))):=by unfold Mz;rw [if_pos c]
  generalize s.l.findIdx (Gr.pr a b)=i at hfl e e2
  have hC:=h.cS
  have ixC:BP tt.get 67 (UT v.cb s.ic) (.int .i64 (i:Int))=(BM (UT v.cb s.ic) (i * 1),True):=by
   have:=P7 hC (k:= .i64) (n:=(i:Int)) (by omega) (by omega)
   rwa [Int.toNat_natCast] at this
  have ldC:=TT hC (i:=i) (by omega)
  rw [Nat.mul_one] at ldC ixC
  have ha0:0≤a:=by omega
  have hb0:0≤b:=by omega
  have ha1:a < ((25:Nat):Int):=by omega
  have hb1:b < ((25:Nat):Int):=by omega
  have i0:¬(i:Int) < 0:=by omega
  have e3:(s.ic[i]?).getD false=Aj s.ic i:=rfl
  rw [e3] at e2
  have g6:∀ {x0 x1 x2 x3 x4 x5 w:Value} {j:Nat},j < 25→((x0 :: x1 :: x2 :: x3 :: x4 :: x5 :: DG s.st s.ks w)[6+j]?).getD undef= .bool ((s.st[j]?).getD false):=fun hj=>OW h.sl hj
  have ta:a.toNat < 25:=by omega
  have tb:b.toNat < 25:=by omega
  have ta6:6+a.toNat < 657:=by omega
  have tb6:6+b.toNat < 657:=by omega
  cases k1:Aj s.ic i <;> cases k2:(s.st[a.toNat]?).getD false <;> cases k3:(s.st[b.toNat]?).getD false
  all_goals
   rw [k1,k2,k3] at e2
   refine CW.vc Jo [0,1,2,6,7] (by kernel_rfl) ?_
   (repeat ((try refine Vc.mk' ?_);simp only [go_sem,Nat.reduceAdd,Nat.reduceLT,hh,Az,hT,ZI,GP,his,hsS,e,e2,ixC,ldC,ha0,hb0,ha1,hb1,i0,k1,k2,k3,g6,ta,tb,ta6,tb6,Nat.mul_one]))
noncomputable def HN:Bp:= .pure (fun args hp=>match args with | [.pointer (some ⟨n,0,none⟩),a]=>GM hp n∧EO .i64 a | _=>False) (fun args hp=>match args with | [.pointer (some ⟨n,_,_⟩),a]=> .bool ((IH hp n).R.any (GR (intOf a))) | _=>undef)
def vD (hp:Hp)(top n:Nat)(a:Int)(i:Nat):SS:=⟨[(0, .pointer (some ⟨n,0,none⟩),true),(1, .int .i64 a,true),(5, .int .i64 (i:Int),true)],hp.AZ [],top+0⟩
theorem yD:BK Try.prog 78 HN:=by
 refine .Gx YB ?_ ?_
 ·intro args hp h
  match args,h with
  | [.pointer (some ⟨n,0,none⟩),a],_=>rfl
 intro args hp hpre top hcl hsc
 match args,hpre with
 | [.pointer (some ⟨n,0,none⟩),a],⟨⟨v,s,h⟩,ha⟩=>
 rw [ha]
 generalize intOf a=a
 simp only [h.s,BA]
 have hh:=h.h
 have hR:=h.R
 have rs:=hR.low hcl
 have n0:n < top:=hcl.lt _ _ hh
 have hT:=Cz (wv:=v.wv) h.sl h.kl
 refine AL.Au BE YB rfl 24 rfl [.tmp 4] rfl (show 2≤24 by decide) ?_
 refine CW.vc Jo [0,1,4,5,12,23] (by kernel_rfl) ?_
 (repeat ((try refine Vc.mk' ?_);simp only [go_sem]))
 refine CW.CZ (vD hp top n a) (fun i=>i≤s.R.length∧(s.R.take i).any (GR a)=false) (fun i=>s.R.length - i) 0 ⟨Nat.zero_le _,rfl⟩ ?_ ?_
 ·exact (by refine BO.mk' [] hcl (by simp) (by simp) rfl (AV ?_) ?_ ?_ <;> simp [Ax,Cd,Ad,AD.nil,AE.refl,AA n0])
 ·rintro i ⟨hi,hm⟩
  by_cases hlt:i < s.R.length
  ·have hst:=Gr.Sg (p:=GR a) hlt
   rw [hm,Bool.false_or] at hst
   by_cases hc:Aj s.R i=a
   ·have h1:s.R.any (GR a)=true:=List.any_eq_true.2 ⟨_,at_mem hlt,by simp [GR,hc]⟩
    refine CW.vc Jo [0,1,4,5,12,23] (by kernel_rfl) ?_
    (repeat ((try refine Vc.mk' ?_);simp only [go_sem,Nat.reduceAdd,hh,Az,hT,Bs hR,CN hR,DM hR,vD,hlt,hc,h1]))
   ·have h1:GR a (Aj s.R i)=false:=by simp [GR];exact fun e=>hc e.symm
    rw [h1] at hst
    refine CW.vc Jo [0,1,4,5,12,23] (by kernel_rfl) ?_
    (repeat ((try refine Vc.mk' ?_);simp only [go_sem,Nat.reduceAdd,hh,Az,hT,Bs hR,CN hR,DM hR,vD,hlt,hc]))
    exact .mk (i+1) ⟨hlt,hst⟩ (by omega) ((by refine BO.mk' [] hcl (by simp) (by simp) rfl (AV ?_) ?_ ?_ <;> simp [Ax,Cd,Ad,AD.nil,AE.refl,AA n0,Av hlt hR.le]))
  ·have hi2:i=s.R.length:=by omega
   subst hi2
   rw [List.take_length] at hm
   refine CW.vc Jo [0,1,4,5,12,23] (by kernel_rfl) ?_
   (repeat ((try refine Vc.mk' ?_);simp only [go_sem,Nat.reduceAdd,hh,Az,hT,Bs hR,vD,Nat.lt_irrefl,decide_false,hm]))
end Go.Proofs.Ytmppehipfpkepaa.Dm
/- The document's Bc: put. -/
set_option linter.unusedVariables false
namespace Go.Proofs.Ytmppehipfpkepaa.Dm
open Go.Dm
set_option maxHeartbeats 16000000
set_option maxRecDepth 20000
def kW (l:List D6)(a:Int):Nat→Nat
 |0=>0
 |k+1=>if a < (Aj l k).At then kW l a k else k+1
theorem kI (l:List D6)(a:Int):∀k,kW l a k≤k
 |0=>Nat.le_refl _
 |k+1=>by unfold kW;split;exact Nat.le_succ_of_le (kI l a k);exact Nat.le_refl _
def JX (l:List D6)(a:Int)(m:Ae):List D6:=l.take (kW l a l.length) ++ ⟨a,m.B2,m.To,m.Bytes⟩ :: l.drop (kW l a l.length)
theorem TC (l:List D6)(a:Int)(m:Ae):(JX l a m).length=l.length+1:=by
 have:=kI l a l.length
 unfold JX;simp;omega
noncomputable def TP (n:Nat)(v:Bh)(s:As)(a:Int)(m:Ae)(top:Nat):Value×BC×Nat:=
 (.tuple ⟨[]⟩, [(n,Az {v with wv:=AK top (JX s.w a m)} {s with w:=JX s.w a m}),(top,AO Be (JX s.w a m))],top+1)
noncomputable def OI:Bp:= .det (fun args hp _=>match args with | [.pointer (some ⟨n,0,none⟩),a, .agg ⟨cs⟩]=>GM hp n∧(IH hp n).w.length < 1000000∧EO .u64 a∧AJ.enc (AJ.dec cs)=cs | _=>False) (fun args hp top=>match args with
 | [.pointer (some ⟨n,_,_⟩),a, .agg ⟨cs⟩]=>TP n (OA hp n) (IH hp n) (intOf a) (AJ.dec cs) top | _=>(undef, [],top))
def dH (hp:Hp)(top n:Nat)(a:Int)(m:Ae)(k:Nat):SS:=⟨[(0, .pointer (some ⟨n,0,none⟩),true),(1, .int .u64 a,true),(5, .pointer (some ⟨top,0,none⟩),true),(6, .int .i64 (k:Int),true)],hp.AZ [(top,some (.cells true 0 [.int .i64 m.B2, .int .i64 m.To, .string ⟨⟨m.Bytes⟩⟩]))],top+1⟩
theorem uN:BK Try.prog 75 OI:=by
 refine .Cc Xr ?_
 intro args hp top hpre hcl hsc
 match args,hpre with
 | [.pointer (some ⟨n,0,none⟩),a, .agg ⟨cs⟩],⟨⟨v,s,h⟩,hwl,ha,hcs⟩=>
 obtain ⟨m,rfl⟩:∃m,cs=AJ.enc m:=⟨_,hcs.symm⟩
 rw [ha]
 rw [h.s] at hwl
 generalize intOf a=a
 simp only [h.s,h.v,BA,AJ.h]
 have hh:=h.h
 have hw:=h.w
 have ws:=hw.low hcl
 have n0:n < top:=hcl.lt _ _ hh
 have hT:=Cz (wv:=v.wv) h.sl h.kl
 have hW:=Md (wv:=v.wv) h.sl h.kl
 have hSW:∀x,Am (DG s.st s.ks v.wv) 650 [x] = DG s.st s.ks x:=Nl h.sl h.kl
 have rs1:=h.R.low hcl
 have ls1:=h.l.low hcl
 have us1:=h.u.low hcl
 have hcb:=h.qG hcl
 have hn4:¬top+4=n:=by omega
 refine AL.Au BE Xr rfl 55 rfl [] rfl (show 3≤55 by decide) ?_
 refine CW.vc Jo [0,1,2,5,6,7,27] (by kernel_rfl) ?_
 (repeat ((try refine Vc.mk' ?_);simp only [go_sem,Nat.reduceAdd,hh,Az,hT,hW,AS n0,FG hw,EW]))
 refine CW.CZ (dH hp top n a m) (fun k=>k≤s.w.length∧kW s.w a k=kW s.w a s.w.length) (fun k=>k) s.w.length ⟨Nat.le_refl _,rfl⟩ ?_ ?_
 ·exact (by refine BO.mk' [top] hcl (by simp) (by simp) rfl (AV ?_) ?_ ?_ <;> simp [Ax,Cd,Ad,Ag,AD.nil,AD.cons,AF,AG,AM,AB,AE.set,AE.refl,AA n0])
 ·rintro k ⟨hk,hm⟩
  have fin:(k=0∨¬a < (Aj s.w (k - 1)).At)→k=kW s.w a s.w.length:=fun hc=>by
   rw [←hm]
   cases k with
   |zero=>rfl
   |succ j=>
    unfold kW
    rw [if_neg]
    rcases hc with hc | hc
    ·cases hc
    ·exact hc
  by_cases c1:0 < k
  ·have hk1:BQ .i64 ((k:Int) - 1)=((k - 1:Nat):Int):=by rw [wrap64 (by omega) (by omega)];omega
   have c1':(0:Int) < (k:Int):=by omega
   have hkl:((k - 1:Nat):Int) < (s.w.length:Int):=by omega
   have hkl2:k - 1 < s.w.length:=by omega
   by_cases c2:a < (Aj s.w (k - 1)).At
   ·refine CW.vc Jo [0,1,2,5,6,7,27] (by kernel_rfl) ?_
    (repeat ((try refine Vc.mk' ?_);simp only [go_sem,Nat.reduceAdd,hh,Az,hT,hW,AS n0,KY hw,Qd hw,PZ hw,Ao ws,dH,c1',hk1,hkl,hkl2,c2]))
    refine .mk (k - 1) ⟨by omega, ?_⟩ (by omega) ((by refine BO.mk' [top] hcl (by simp) (by simp) rfl (AV ?_) ?_ ?_ <;> simp [Ax,Cd,Ad,Ag,AD.nil,AD.cons,AF,AG,AM,AB,AE.set,AE.refl,AA n0]))
    rw [←hm]
    obtain ⟨j,rfl⟩:∃j,k=j+1:=⟨k - 1,by omega⟩
    have:kW s.w a (j+1)=if a < (Aj s.w j).At then kW s.w a j else j+1:=rfl
    rw [this,if_pos (show a < (Aj s.w j).At from c2)];rfl
   ·have hkk:=fin (.inr c2)
    have hu:BU Be hp (Pv 4 v.wv 0 k) (s.w.take k):=hw.take hk
    have hd:BU Be hp (Mb 4 v.wv k) (s.w.drop k):=hw.drop hk
    have us:=hu.low hcl
    have ds:=hd.low hcl
    have hul:(s.w.take k).length≤1000000:=by rw [List.length_take];omega
    have hul1:(s.w.take k).length≤16777216:=by omega
    have hul2:(s.w.take k).length < 16777216:=by omega
    have hdl:(s.w.drop k).length≤1000000:=by rw [List.length_drop];omega
    have hsum:(s.w.take k).length+(1+(s.w.drop k).length)≤16777216:=by omega
    have hpw:s.w.take k ++ [⟨a,m.B2,m.To,m.Bytes⟩] ++ s.w.drop k=JX s.w a m:=by rw [hkk];unfold JX;simp
    refine CW.vc Jo [0,1,2,5,6,7,27] (by kernel_rfl) ?_
    (repeat ((try refine Vc.mk' ?_);simp only [go_sem,reduceCtorEq,Nat.reduceAdd,Nat.reduceMul,Nat.reduceLeDiff,Nat.reduceEqDiff,hh,Az,hT,hW,hSW,AS n0,KY hw,dQ hw,YC hw,Qd hw,PZ hw,Ao ws,Ka hw ws GA,hpw,hk,hul1,hul2,hsum,hu.P,hu.rd,CK us,Bf us,hd.P,hd.rd,CK ds,Bf ds,List.length_append,List.length_cons,List.length_nil,dH,c1',hk1,hkl,hkl2,c2]))
    simp only [TP]
    (refine ⟨[top+4],by simp,by simp,by simp, ?_, ?_, ?_⟩ <;> simp [Ad,Ag,AD.nil,AD.cons,AF,AG,AQ,AM,Af,AB,AH,AE.set,AE.B5,AE.refl,hn4,Az,CU,D4,AA n0,AA hcb,Sc.Ad (fun j hj=>AA hj) rs1,Sc.Ad (fun j hj=>AA hj) ls1,Sc.Ad (fun j hj=>AA hj) us1])
  ·have hkk:=fin (.inl (by omega))
   have c1':¬(0:Int) < (k:Int):=by omega
   have hu:BU Be hp (Pv 4 v.wv 0 k) (s.w.take k):=hw.take hk
   have hd:BU Be hp (Mb 4 v.wv k) (s.w.drop k):=hw.drop hk
   have us:=hu.low hcl
   have ds:=hd.low hcl
   have hul:(s.w.take k).length≤1000000:=by rw [List.length_take];omega
   have hul1:(s.w.take k).length≤16777216:=by omega
   have hul2:(s.w.take k).length < 16777216:=by omega
   have hdl:(s.w.drop k).length≤1000000:=by rw [List.length_drop];omega
   have hsum:(s.w.take k).length+(1+(s.w.drop k).length)≤16777216:=by omega
   have hpw:s.w.take k ++ [⟨a,m.B2,m.To,m.Bytes⟩] ++ s.w.drop k=JX s.w a m:=by rw [hkk];unfold JX;simp
   refine CW.vc Jo [0,1,2,5,6,7,27] (by kernel_rfl) ?_
   (repeat ((try refine Vc.mk' ?_);simp only [go_sem,reduceCtorEq,Nat.reduceAdd,Nat.reduceMul,Nat.reduceLeDiff,Nat.reduceEqDiff,hh,Az,hT,hW,hSW,AS n0,dQ hw,YC hw,Ka hw ws GA,hpw,hk,hul1,hul2,hsum,hu.P,hu.rd,CK us,Bf us,hd.P,hd.rd,CK ds,Bf ds,List.length_append,List.length_cons,List.length_nil,dH,c1']))
   simp only [TP]
   (refine ⟨[top+4],by simp,by simp,by simp, ?_, ?_, ?_⟩ <;> simp [Ad,Ag,AD.nil,AD.cons,AF,AG,AQ,AM,Af,AB,AH,AE.set,AE.B5,AE.refl,hn4,Az,CU,D4,AA n0,AA hcb,Sc.Ad (fun j hj=>AA hj) rs1,Sc.Ad (fun j hj=>AA hj) ls1,Sc.Ad (fun j hj=>AA hj) us1])
end Go.Proofs.Ytmppehipfpkepaa.Dm
