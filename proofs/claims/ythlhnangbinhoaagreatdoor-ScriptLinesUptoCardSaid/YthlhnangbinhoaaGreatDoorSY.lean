/- Print, walked. -/
import Derived.Test.YthlhnangbinhoaaGreatDoorSX
set_option linter.unusedVariables false
namespace Go.Proofs.YthlhnangbinhoaaGreatDoor.Dm
open Go.Dm
set_option maxHeartbeats 64000000
set_option maxRecDepth 20000
noncomputable def Yu:FuncId→Bb:=Bw sX 24 Jm
theorem EW:CQ Tryz.prog tt.get Yu:=U0.add ABa
theorem I8:Yu 24=Jm:=rfl
theorem YM:Yu 23=Jl (fun _=>True) Ia:=rfl
theorem kH:Yu 15=Ow:=rfl
theorem fJ:Yu 27=Mk:=rfl
theorem wE:Yu 28=JA:=rfl
def Jn (hp:Hp)(top:Nat)(b:Option A7)(T:List UInt8):Hp:=hp.Av [(top,b),(top+1,B6 (.pointer (some ⟨top+1,0,none⟩)) (AA (top+2) T)),(top+2,Fi T)]
def Nv (top:Nat)(fr:C6):C6:=(1, .pointer (some ⟨top,0,none⟩),true) :: (5, .pointer (some ⟨top+1,0,none⟩),true) :: (6, .func (.func 24) ⟨[]⟩ ⟨[.pointer (some ⟨top+1,0,none⟩)]⟩,true) :: fr
def uR (hp:Hp)(top:Nat)(S:CK)(r k u o:Value)(i:Nat):SS:=⟨Nv top [(46,r,true),(47, .int .i64 (S.R.length:Int),true),(48, .int .i64 (i:Int),true)],Jn hp top (Bk S r k u o) (CV S ++ BK C2 (S.R.take i)),top+3⟩
def IE (hp:Hp)(top:Nat)(S:CK)(r k u o:Value)(i:Nat):SS:=⟨Nv top [(65,k,true),(66, .int .i64 (S.K.length:Int),true),(67, .int .i64 (i:Int),true)],Jn hp top (Bk S r k u o) (CV S ++ BK C2 S.R ++ BK Eh (S.K.take i)),top+3⟩
def rG (hp:Hp)(top:Nat)(S:CK)(r k u o:Value)(i:Nat):SS:=⟨Nv top [(83,u,true),(84, .int .i64 (S.U.length:Int),true),(85, .int .i64 (i:Int),true)],Jn hp top (Bk S r k u o) (CV S ++ BK C2 S.R ++ BK Eh S.K ++ BK FZ (S.U.take i)),top+3⟩
def wj (hp:Hp)(top:Nat)(S:CK)(r k u o:Value)(ops:List Ax)(i:Nat):SS:=⟨Nv top [(130,o,true),(131, .int .i64 (ops.length:Int),true),(132, .int .i64 (i:Int),true)],Jn hp top (Bk S r k u o) (Hr S ++ BK J6 (ops.take i)),top+3⟩
theorem VS {h:Hp}{i j q:Nat}{a:Value}{T w tl:List UInt8}{ns:List Int}(b:Dh h i a j T)(hr:T.length+w.length+tl.length≤140737488000000)(hq:ns= []∨h q=AD AY ns)(h1:q≠i)(h2:q≠j)(h3:j≠1)(h4:ns.length≤4)(h5:∀n∈ns,Fh n):J4 h w tl (AA q ns) i:=⟨⟨a,j,T,q,ns,b,hr,rfl,hq,h1,h2,h3,h4,h5⟩⟩
theorem vj {h:Hp}{q:Nat}{ns:List Int}(hq:h q=AD AY ns)(hn:ns.length≤4):AY.rd h (AA q ns)=ns:=MJ hq (by omega)
theorem KC {hp h1:Hp}{top t:Nat}{fr fr':C6}{T:List UInt8}{b:Option A7}(j:Nat)(hcl:Cl hp top)(hj:top+2≤j)
  (hfr:Ge (rn top [top,top+1,j] t) fr' fr) (hk:BQ top [] h1 hp) (m0:h1 top=b) (m1:h1 (top+1)=B6 (.pointer (some ⟨top+1,0,none⟩)) (AA j T)) (m2:h1 j=Fi T)
  (hb:IU (rn top [top,top+1,j] t) b=b):∃ρ,BR ρ top ⟨fr',Jn hp top b T,top+3⟩ ⟨fr,h1,t⟩:=by
 have r0:rn top [top,top+1,j] t top=top:=EF _ _ _
 have r1:rn top [top,top+1,j] t (top+1)=top+1:=DE _ _ _ 1
 have r2:rn top [top,top+1,j] t (top+2)=j:=DE _ _ _ 2
 refine BR.mk' [top,top+1,j] hcl (by simp;omega) (by simp;omega) (n:=3) rfl (AU hfr) (fun i hi hm=>hk i hi (by simp)) ?_
 simp only [Gd.cons,Gd.nil,r0,r1,r2,m0,m1,m2,hb,Iv,LK,Ab,Az,or_true,and_self]
theorem ACa:A0 Tryz.prog 9 Z8:=by
 refine .Fm Ym (fun args hp h=> ?_) ?_
 ·match args,h with
  | [v],_=>rfl
 intro args hp hpre top hcl hsc
 match args,hpre with
 | [v],⟨⟨S,ops,hS,hG,hO⟩,hv⟩=>
 have ht5:=Fc hcl hv
 have hv1:hp 1=some Tw:=hv.1
 have t1:1 < top:=by omega
 have t2:2≤top+1:=by omega
 have hd:=hS.d
 have lR:=hS.rl
 have lK:=hS.kl
 have lU:=hS.ul
 have lO:=hS.ol
 obtain ⟨r,k,u,o,rfl,h1,h2,h3,h4⟩:=hS.ex
 have s1:=h1.low hcl
 have s2:=h2.low hcl
 have s3:=h3.low hcl
 have s4:=h4.low hcl
 have hSV:∀ {h':Hp},BQ top [] h' hp→SH h' (.agg ⟨[.int .i64 S.W, .int .i64 S.A, .int .i64 S.T, .int .i64 S.L,r,k,u]⟩) S:=fun {h'} hk=>⟨⟨r,k,u,rfl,h1.BH s1 hk,h2.BH s2 hk,h3.BH s3 hk⟩,lR,lK,lU⟩
 have hE:∀ {h':Hp},BQ top [] h' hp→(∃Z,SH h' (.agg ⟨[.int .i64 S.W, .int .i64 S.A, .int .i64 S.T, .int .i64 S.L,r,k,u]⟩) Z)=True:=fun {h'} hk=>eq_true ⟨S,hSV hk⟩
 have hD:∀ {h':Hp},BQ top [] h' hp→Lv h' (.agg ⟨[.int .i64 S.W, .int .i64 S.A, .int .i64 S.T, .int .i64 S.L,r,k,u]⟩)=S:=fun {h'} hk=>(hSV hk).d
 simp only [hd]
 unfold Yl
 refine AR.A5 BA Ym rfl 151 rfl [.tmp 2, .tmp 3] rfl (show 1≤151 by decide) ?_
 by_cases c1:Ia S=0
 case neg=>
  have e:nc S ops=([],Ia S):=by unfold nc;rw [if_pos c1]
  rw [e]
  refine CW.vc EW [0,1,2,3,4,5,6,8,9,11,13,15,16,17,22,27,46,47,48,49,53,65,66,67,68,83,84,85,86,90,102,113,130,131,132,133,142,149] (by kernel_rfl) ?_
  (repeat ((try refine Vc.mk' ?_);simp (maxSteps:=6000000) only [go_sem,YM,Jl,hE,hD,hv,AQ ht5,c1,w5]))
 by_cases c2:512 < ops.length
 ·have e:nc S ops=([],3):=by unfold nc;rw [if_neg (by simp [c1]),if_pos c2]
  have c2':(512:Int) < (ops.length:Int):=by omega
  rw [e]
  refine CW.vc EW [0,1,2,3,4,5,6,8,9,11,13,15,16,17,22,27,46,47,48,49,53,65,66,67,68,83,84,85,86,90,102,113,130,131,132,133,142,149] (by kernel_rfl) ?_
  (repeat ((try refine Vc.mk' ?_);simp (maxSteps:=6000000) only [go_sem,YM,Jl,hE,hD,hv,AQ ht5,c1,w5,c2',VQ h4]))
 have c2':¬(512:Int) < (ops.length:Int):=by omega
 have hz:hp (top+3)=none:=by
  cases h:hp (top+3) with
  |none=>rfl
  |some o=>have:=hcl.lt _ _ h;omega
 have hB0:∀ {h':Hp},h' (top+1)=some (.cells true CS [.pointer none, .slice none 0 0])→h' (top+3)=none→Dh h' (top+1) (.pointer none) (top+3) []:=fun a b=>⟨a, .inl rfl,b,by omega⟩
 have hp0:∀ {h':Hp},h' (top+1)=some (.cells true CS [.pointer none, .slice none 0 0])→h' (top+3)=none→h' (top+2)=some (.cells true 1 [.int .i64 S.W, .int .i64 S.A, .int .i64 S.T, .int .i64 S.L])→J4 h' [119,111,114,108,100] [] (.slice (some ⟨top+2,0,none⟩) 4 4) (top+1)=True:=fun a b c=>eq_true (VS (ns:= [S.W,S.A,S.T,S.L]) (hB0 a b) (by decide) (.inr c) (by omega) (by omega) (by omega) (by simp) (by simp [hG.w,hG.a,hG.t,hG.l]))
 have hr0:∀ {h':Hp},h' (top+2)=some (.cells true 1 [.int .i64 S.W, .int .i64 S.A, .int .i64 S.T, .int .i64 S.L])→AY.rd h' (.slice (some ⟨top+2,0,none⟩) 4 4)= [S.W,S.A,S.T,S.L]:=fun a=>vj (ns:= [S.W,S.A,S.T,S.L]) a (by simp)
 have hl0:DI [119,111,114,108,100] [] [S.W,S.A,S.T,S.L] = CV S:=rfl
 have hbL0:∀ {h':Hp},h' (top+1)=some (.cells true CS [.pointer none, .slice none 0 0])→h' (top+3)=none→IQ h' (top+1)= []:=fun a b=>(hB0 a b).Kj
 have hbJ0:∀ {h':Hp} {t:Nat},h' (top+1)=some (.cells true CS [.pointer none, .slice none 0 0])→h' (top+3)=none→GR h' (top+1) t=t:=fun a b=>(hB0 a b).SZ
 refine CW.vc EW [0,1,2,3,4,5,6,8,9,11,13,15,16,17,22,27,46,47,48,49,53,65,66,67,68,83,84,85,86,90,102,113,130,131,132,133,142,149] (by kernel_rfl) ?_
 (repeat ((try refine Vc.mk' ?_);simp (maxSteps:=6000000) only [go_sem,YM,Jl,hE,hD,hv,AQ ht5,c1,c2',VQ h4,I8,Jm,hp0,hr0,hl0,hbL0,hbJ0,hz,hv1,Ae t1,t2,AH,YA,Ek,FX,OU h1]))
 have hob:∀ {ρ:Nat→Nat},(∀j,j < top→ρ j=j)→IU ρ (Bk S r k u o)=Bk S r k u o:=fun {ρ} h=>by
  simp only [Bk,IU,Iw,Co,Az,Sc.Az h s1,Sc.Az h s2,Sc.Az h s3,Sc.Az h s4]
 have hlo:∀ {bs:List Nat} {z:Nat} (j:Nat),j < top→rn top bs z j=j:=fun j hj=>AB hj
 have hwl:=Fq (w:=YU) (tl:= []) (ns:= [S.W,S.A,S.T,S.L]) (by simp [hG.w,hG.a,hG.t,hG.l])
 have hWl:(CV S).length≤200:=by
  unfold CV
  have:YU.length=5:=rfl
  simp only [List.length_cons,List.length_nil] at hwl ⊢;omega
 have hRl:=FI (f:=C2) (n:=200) (l:=S.R) fun c hc=>TH (hG.R c hc)
 have hKl:=FI (f:=Eh) (n:=200) (l:=S.K) fun c hc=>Sa (hG.K c hc)
 have hUl:=FI (f:=FZ) (n:=200) (l:=S.U) fun c hc=>TD (hG.U c hc)
 refine CW.DC (uR hp top S r k u o) (fun i=>i≤S.R.length) (fun i=>S.R.length - i) 0 (Nat.zero_le _) ?_ ?_
 ·simp only [uR,List.take_zero,BK,List.append_nil]
  refine KC (top+3) hcl (by omega) ?_ ?_ ?_ ?_ ?_ (hob hlo)
  ·simp [Nv,Ge,Jk,Az,Co,EF,DE,Sc.Az hlo s1]
  ·simp [BQ.set,BQ.refl]
  ·simp [AZ,AG,Bk]
  ·simp [AG]
  ·simp [AZ,AG]
 ·intro i hi
  have hTn:CV S ++ BK C2 (S.R.take i)≠ []:=by simp [CV,DI]
  have hTl:(CV S ++ BK C2 (S.R.take i)).length≤1000000000:=by
   have:=FI (f:=C2) (n:=200) (l:=S.R.take i) fun c hc=>TH (hG.R c (List.mem_of_mem_take hc))
   rw [List.length_take] at this
   simp only [List.length_append];omega
  by_cases hlt:i < S.R.length
  ·have ii:((i:Int) < (S.R.length:Int)):=by omega
   have kk:Ap .i64 ((i:Int)+1)=((i+1:Nat):Int):=Bf hlt (by omega)
   have hM:=hG.R _ (show at' S.R i∈S.R by rw [CO _ _ hlt];exact List.getElem_mem hlt)
   have hnx:CV S ++ BK C2 (S.R.take (i+1))=(CV S ++ BK C2 (S.R.take i)) ++ C2 (at' S.R i):=by rw [DN hlt,Ix];simp only [List.append_assoc]
   generalize hT:CV S ++ BK C2 (S.R.take i)=T at hTn hTl hnx
   have hbL:∀ {h':Hp},h' (top+1)=B6 (.pointer (some ⟨top+1,0,none⟩)) (AA (top+2) T)→h' (top+2)=Fi T→IQ h' (top+1)=T:=fun a b=>(Bx (by omega) a b).Kj
   have hbJ:∀ {h':Hp} {t:Nat},h' (top+1)=B6 (.pointer (some ⟨top+1,0,none⟩)) (AA (top+2) T)→h' (top+2)=Fi T→GR h' (top+1) t=top+2:=fun a b=>(Bx (by omega) a b).Ma hTn
   by_cases ci:(at' S.R i).Ey=true
   ·have cit:=eq_true ci
    have hpre:∀ {h':Hp},h' (top+1)=B6 (.pointer (some ⟨top+1,0,none⟩)) (AA (top+2) T)→h' (top+2)=Fi T→h' (top+4)=some (.cells true 1 [.int .i64 (at' S.R i).Self, .int .i64 (at' S.R i).Claim])→J4 h' [114,111,117,116,101,114] [32,105,110,103,114,101,115,115] (.slice (some ⟨top+4,0,none⟩) 2 2) (top+1)=True:=fun a b c=>eq_true (VS (ns:= [(at' S.R i).Self,(at' S.R i).Claim]) (Bx (by omega) a b) (by simp only [List.length_cons,List.length_nil];omega) (.inr c) (by omega) (by omega) (by omega) (by simp) (by simp [hM]))
    have hrd:∀ {h':Hp},h' (top+4)=some (.cells true 1 [.int .i64 (at' S.R i).Self, .int .i64 (at' S.R i).Claim])→AY.rd h' (.slice (some ⟨top+4,0,none⟩) 2 2)= [(at' S.R i).Self,(at' S.R i).Claim]:=fun a=>vj (ns:= [(at' S.R i).Self,(at' S.R i).Claim]) a (by simp)
    have hln:DI [114,111,117,116,101,114] [32,105,110,103,114,101,115,115] [(at' S.R i).Self,(at' S.R i).Claim] = C2 (at' S.R i):=by simp [C2,NI,rA,ci]
    refine CW.vc EW [0,1,2,3,4,5,6,8,9,11,13,15,16,17,22,27,46,47,48,49,53,65,66,67,68,83,84,85,86,90,102,113,130,131,132,133,142,149] (by kernel_rfl) ?_
    (repeat ((try refine Vc.mk' ?_);simp (maxSteps:=6000000) only [go_sem,uR,hT,Nv,Jn,I8,Jm,hpre,hrd,hbL,hbJ,hv1,Ae t1,t2,AH,YA,kk,ii,hlt,hln,IX h1,Kr h1,Bh s1,ci]))
    refine .mk (i+1) hlt (by omega) (by
     simp only [uR]
     rw [hnx]
     refine KC (top+5) hcl (by omega) ?_ ?_ ?_ ?_ ?_ (hob hlo)
     ·simp [Nv,Ge,Jk,Az,Co,EF,DE,Sc.Az hlo s1]
     ·simp [BQ.set,BQ.refl]
     ·simp [AZ,AG,Bk]
     ·simp [AG]
     ·simp [AZ,AG])
   ·skip
    have hpre:∀ {h':Hp},h' (top+1)=B6 (.pointer (some ⟨top+1,0,none⟩)) (AA (top+2) T)→h' (top+2)=Fi T→h' (top+4)=some (.cells true 1 [.int .i64 (at' S.R i).Self, .int .i64 (at' S.R i).Claim])→J4 h' [114,111,117,116,101,114] [] (.slice (some ⟨top+4,0,none⟩) 2 2) (top+1)=True:=fun a b c=>eq_true (VS (ns:= [(at' S.R i).Self,(at' S.R i).Claim]) (Bx (by omega) a b) (by simp only [List.length_cons,List.length_nil];omega) (.inr c) (by omega) (by omega) (by omega) (by simp) (by simp [hM]))
    have hrd:∀ {h':Hp},h' (top+4)=some (.cells true 1 [.int .i64 (at' S.R i).Self, .int .i64 (at' S.R i).Claim])→AY.rd h' (.slice (some ⟨top+4,0,none⟩) 2 2)= [(at' S.R i).Self,(at' S.R i).Claim]:=fun a=>vj (ns:= [(at' S.R i).Self,(at' S.R i).Claim]) a (by simp)
    have hln:DI [114,111,117,116,101,114] [] [(at' S.R i).Self,(at' S.R i).Claim] = C2 (at' S.R i):=by simp [C2,NI,ci]
    refine CW.vc EW [0,1,2,3,4,5,6,8,9,11,13,15,16,17,22,27,46,47,48,49,53,65,66,67,68,83,84,85,86,90,102,113,130,131,132,133,142,149] (by kernel_rfl) ?_
    (repeat ((try refine Vc.mk' ?_);simp (maxSteps:=6000000) only [go_sem,uR,hT,Nv,Jn,I8,Jm,hpre,hrd,hbL,hbJ,hv1,Ae t1,t2,AH,YA,kk,ii,hlt,hln,IX h1,Kr h1,Bh s1,ci]))
    refine .mk (i+1) hlt (by omega) (by
     simp only [uR]
     rw [hnx]
     refine KC (top+5) hcl (by omega) ?_ ?_ ?_ ?_ ?_ (hob hlo)
     ·simp [Nv,Ge,Jk,Az,Co,EF,DE,Sc.Az hlo s1]
     ·simp [BQ.set,BQ.refl]
     ·simp [AZ,AG,Bk]
     ·simp [AG]
     ·simp [AZ,AG])
  ·have hk2:i=S.R.length:=by omega
   subst hk2
   rw [List.take_length] at hTn hTl
   generalize hT:CV S ++ BK C2 S.R=T at hTn hTl
   have ii:¬((S.R.length:Int) < (S.R.length:Int)):=by omega
   refine CW.vc EW [0,1,2,3,4,5,6,8,9,11,13,15,16,17,22,27,46,47,48,49,53,65,66,67,68,83,84,85,86,90,102,113,130,131,132,133,142,149] (by kernel_rfl) ?_
   (repeat ((try refine Vc.mk' ?_);simp (maxSteps:=6000000) only [go_sem,uR,List.take_length,hT,Nv,Jn,Bk,ii,decide_false,G4 h2]))
   simp only [←hT]
   refine CW.DC (IE hp top S r k u o) (fun i=>i≤S.K.length) (fun i=>S.K.length - i) 0 (Nat.zero_le _) ?_ ?_
   ·simp only [IE,List.take_zero,BK,List.append_nil]
    refine KC (top+2) hcl (by omega) ?_ ?_ ?_ ?_ ?_ (hob hlo)
    ·simp [Nv,Ge,Jk,Az,Co,EF,DE,Sc.Az hlo s2]
    ·simp [BQ.set,BQ.refl]
    ·simp [AZ,AG,Bk]
    ·simp [AZ,AG]
    ·simp [AG]
   ·intro i hi
    have hTn:CV S ++ BK C2 S.R ++ BK Eh (S.K.take i)≠ []:=by simp [CV,DI]
    have hTl:(CV S ++ BK C2 S.R ++ BK Eh (S.K.take i)).length≤1000000000:=by
     have:=FI (f:=Eh) (n:=200) (l:=S.K.take i) fun c hc=>Sa (hG.K c (List.mem_of_mem_take hc))
     rw [List.length_take] at this
     simp only [List.length_append];omega
    by_cases hlt:i < S.K.length
    ·have ii:((i:Int) < (S.K.length:Int)):=by omega
     have kk:Ap .i64 ((i:Int)+1)=((i+1:Nat):Int):=Bf hlt (by omega)
     have hM:=hG.K _ (show at' S.K i∈S.K by rw [CO _ _ hlt];exact List.getElem_mem hlt)
     have hnx:CV S ++ BK C2 S.R ++ BK Eh (S.K.take (i+1))=(CV S ++ BK C2 S.R ++ BK Eh (S.K.take i)) ++ Eh (at' S.K i):=by rw [DN hlt,Ix];simp only [List.append_assoc]
     generalize hT:CV S ++ BK C2 S.R ++ BK Eh (S.K.take i)=T at hTn hTl hnx
     have hbL:∀ {h':Hp},h' (top+1)=B6 (.pointer (some ⟨top+1,0,none⟩)) (AA (top+2) T)→h' (top+2)=Fi T→IQ h' (top+1)=T:=fun a b=>(Bx (by omega) a b).Kj
     have hbJ:∀ {h':Hp} {t:Nat},h' (top+1)=B6 (.pointer (some ⟨top+1,0,none⟩)) (AA (top+2) T)→h' (top+2)=Fi T→GR h' (top+1) t=top+2:=fun a b=>(Bx (by omega) a b).Ma hTn
     have hpre:∀ {h':Hp},h' (top+1)=B6 (.pointer (some ⟨top+1,0,none⟩)) (AA (top+2) T)→h' (top+2)=Fi T→h' (top+4)=some (.cells true 1 [.int .i64 (at' S.K i).A, .int .i64 (at' S.K i).B, .int .i64 (at' S.K i).EB])→J4 h' [108,105,110,107] [] (.slice (some ⟨top+4,0,none⟩) 3 3) (top+1)=True:=fun a b c=>eq_true (VS (ns:= [(at' S.K i).A,(at' S.K i).B,(at' S.K i).EB]) (Bx (by omega) a b) (by simp only [List.length_cons,List.length_nil];omega) (.inr c) (by omega) (by omega) (by omega) (by simp) (by simp [hM]))
     have hrd:∀ {h':Hp},h' (top+4)=some (.cells true 1 [.int .i64 (at' S.K i).A, .int .i64 (at' S.K i).B, .int .i64 (at' S.K i).EB])→AY.rd h' (.slice (some ⟨top+4,0,none⟩) 3 3)= [(at' S.K i).A,(at' S.K i).B,(at' S.K i).EB]:=fun a=>vj (ns:= [(at' S.K i).A,(at' S.K i).B,(at' S.K i).EB]) a (by simp)
     have hln:DI [108,105,110,107] [] [(at' S.K i).A,(at' S.K i).B,(at' S.K i).EB] = Eh (at' S.K i):=by simp [Eh,bP]
     refine CW.vc EW [0,1,2,3,4,5,6,8,9,11,13,15,16,17,22,27,46,47,48,49,53,65,66,67,68,83,84,85,86,90,102,113,130,131,132,133,142,149] (by kernel_rfl) ?_
     (repeat ((try refine Vc.mk' ?_);simp (maxSteps:=6000000) only [go_sem,IE,hT,Nv,Jn,I8,Jm,hpre,hrd,hbL,hbJ,hv1,Ae t1,t2,AH,YA,kk,ii,hln,C1 h2,DY h2,Bh s2,hlt]))
     refine .mk (i+1) hlt (by omega) (by
      simp only [IE]
      rw [hnx]
      refine KC (top+5) hcl (by omega) ?_ ?_ ?_ ?_ ?_ (hob hlo)
      ·simp [Nv,Ge,Jk,Az,Co,EF,DE,Sc.Az hlo s2]
      ·simp [BQ.set,BQ.refl]
      ·simp [AZ,AG,Bk]
      ·simp [AG]
      ·simp [AZ,AG])
    ·have hk2:i=S.K.length:=by omega
     subst hk2
     rw [List.take_length] at hTn hTl
     generalize hT:CV S ++ BK C2 S.R ++ BK Eh S.K=T at hTn hTl
     have ii:¬((S.K.length:Int) < (S.K.length:Int)):=by omega
     refine CW.vc EW [0,1,2,3,4,5,6,8,9,11,13,15,16,17,22,27,46,47,48,49,53,65,66,67,68,83,84,85,86,90,102,113,130,131,132,133,142,149] (by kernel_rfl) ?_
     (repeat ((try refine Vc.mk' ?_);simp (maxSteps:=6000000) only [go_sem,IE,List.take_length,hT,Nv,Jn,Bk,ii,decide_false,OI h3]))
     simp only [←hT]
     refine CW.DC (rG hp top S r k u o) (fun i=>i≤S.U.length) (fun i=>S.U.length - i) 0 (Nat.zero_le _) ?_ ?_
     ·simp only [rG,List.take_zero,BK,List.append_nil]
      refine KC (top+2) hcl (by omega) ?_ ?_ ?_ ?_ ?_ (hob hlo)
      ·simp [Nv,Ge,Jk,Az,Co,EF,DE,Sc.Az hlo s3]
      ·simp [BQ.set,BQ.refl]
      ·simp [AZ,AG,Bk]
      ·simp [AZ,AG]
      ·simp [AG]
     ·intro i hi
      have hTn:CV S ++ BK C2 S.R ++ BK Eh S.K ++ BK FZ (S.U.take i)≠ []:=by simp [CV,DI]
      have hTl:(CV S ++ BK C2 S.R ++ BK Eh S.K ++ BK FZ (S.U.take i)).length≤1000000000:=by
       have:=FI (f:=FZ) (n:=200) (l:=S.U.take i) fun c hc=>TD (hG.U c (List.mem_of_mem_take hc))
       rw [List.length_take] at this
       simp only [List.length_append];omega
      by_cases hlt:i < S.U.length
      ·have ii:((i:Int) < (S.U.length:Int)):=by omega
       have kk:Ap .i64 ((i:Int)+1)=((i+1:Nat):Int):=Bf hlt (by omega)
       have hM:=hG.U _ (show at' S.U i∈S.U by rw [CO _ _ hlt];exact List.getElem_mem hlt)
       have hnx:CV S ++ BK C2 S.R ++ BK Eh S.K ++ BK FZ (S.U.take (i+1))=(CV S ++ BK C2 S.R ++ BK Eh S.K ++ BK FZ (S.U.take i)) ++ FZ (at' S.U i):=by rw [DN hlt,Ix];simp only [List.append_assoc]
       generalize hT:CV S ++ BK C2 S.R ++ BK Eh S.K ++ BK FZ (S.U.take i)=T at hTn hTl hnx
       have hbL:∀ {h':Hp},h' (top+1)=B6 (.pointer (some ⟨top+1,0,none⟩)) (AA (top+2) T)→h' (top+2)=Fi T→IQ h' (top+1)=T:=fun a b=>(Bx (by omega) a b).Kj
       have hbJ:∀ {h':Hp} {t:Nat},h' (top+1)=B6 (.pointer (some ⟨top+1,0,none⟩)) (AA (top+2) T)→h' (top+2)=Fi T→GR h' (top+1) t=top+2:=fun a b=>(Bx (by omega) a b).Ma hTn
       by_cases c1k:(at' S.U i).Kind=1
       ·have c1kt:=eq_true c1k
        have hpre:∀ {h':Hp},h' (top+1)=B6 (.pointer (some ⟨top+1,0,none⟩)) (AA (top+2) T)→h' (top+2)=Fi T→h' (top+4)=some (.cells true 1 [.int .i64 (at' S.U i).Cj, .int .i64 (at' S.U i).To, .int .i64 (at' S.U i).JK])→J4 h' [100,114,111,112] [] (.slice (some ⟨top+4,0,none⟩) 3 3) (top+1)=True:=fun a b c=>eq_true (VS (ns:= [(at' S.U i).Cj,(at' S.U i).To,(at' S.U i).JK]) (Bx (by omega) a b) (by simp only [List.length_cons,List.length_nil];omega) (.inr c) (by omega) (by omega) (by omega) (by simp) (by simp [hM]))
        have hrd:∀ {h':Hp},h' (top+4)=some (.cells true 1 [.int .i64 (at' S.U i).Cj, .int .i64 (at' S.U i).To, .int .i64 (at' S.U i).JK])→AY.rd h' (.slice (some ⟨top+4,0,none⟩) 3 3)= [(at' S.U i).Cj,(at' S.U i).To,(at' S.U i).JK]:=fun a=>vj (ns:= [(at' S.U i).Cj,(at' S.U i).To,(at' S.U i).JK]) a (by simp)
        have hln:DI [100,114,111,112] [] [(at' S.U i).Cj,(at' S.U i).To,(at' S.U i).JK] = FZ (at' S.U i):=by simp [FZ,ag,c1k]
        refine CW.vc EW [0,1,2,3,4,5,6,8,9,11,13,15,16,17,22,27,46,47,48,49,53,65,66,67,68,83,84,85,86,90,102,113,130,131,132,133,142,149] (by kernel_rfl) ?_
        (repeat ((try refine Vc.mk' ?_);simp (maxSteps:=6000000) only [go_sem,rG,hT,Nv,Jn,I8,Jm,hpre,hrd,hbL,hbJ,hv1,Ae t1,t2,AH,YA,kk,ii,hlt,hln,LO h3,NY h3,Bh s3,c1k]))
        refine .mk (i+1) hlt (by omega) (by
         simp only [rG]
         rw [hnx]
         refine KC (top+5) hcl (by omega) ?_ ?_ ?_ ?_ ?_ (hob hlo)
         ·simp [Nv,Ge,Jk,Az,Co,EF,DE,Sc.Az hlo s3]
         ·simp [BQ.set,BQ.refl]
         ·simp [AZ,AG,Bk]
         ·simp [AG]
         ·simp [AZ,AG])
       ·skip
        by_cases c2k:(at' S.U i).Kind=2
        ·have c2kt:=eq_true c2k
         have hpre:∀ {h':Hp},h' (top+1)=B6 (.pointer (some ⟨top+1,0,none⟩)) (AA (top+2) T)→h' (top+2)=Fi T→h' (top+4)=some (.cells true 1 [.int .i64 (at' S.U i).Cj, .int .i64 (at' S.U i).To, .int .i64 (at' S.U i).JK, .int .i64 (at' S.U i).By])→J4 h' [100,111,117,98,108,101] [] (.slice (some ⟨top+4,0,none⟩) 4 4) (top+1)=True:=fun a b c=>eq_true (VS (ns:= [(at' S.U i).Cj,(at' S.U i).To,(at' S.U i).JK,(at' S.U i).By]) (Bx (by omega) a b) (by simp only [List.length_cons,List.length_nil];omega) (.inr c) (by omega) (by omega) (by omega) (by simp) (by simp [hM]))
         have hrd:∀ {h':Hp},h' (top+4)=some (.cells true 1 [.int .i64 (at' S.U i).Cj, .int .i64 (at' S.U i).To, .int .i64 (at' S.U i).JK, .int .i64 (at' S.U i).By])→AY.rd h' (.slice (some ⟨top+4,0,none⟩) 4 4)= [(at' S.U i).Cj,(at' S.U i).To,(at' S.U i).JK,(at' S.U i).By]:=fun a=>vj (ns:= [(at' S.U i).Cj,(at' S.U i).To,(at' S.U i).JK,(at' S.U i).By]) a (by simp)
         have hln:DI [100,111,117,98,108,101] [] [(at' S.U i).Cj,(at' S.U i).To,(at' S.U i).JK,(at' S.U i).By] = FZ (at' S.U i):=by simp [FZ,P3,c2k]
         refine CW.vc EW [0,1,2,3,4,5,6,8,9,11,13,15,16,17,22,27,46,47,48,49,53,65,66,67,68,83,84,85,86,90,102,113,130,131,132,133,142,149] (by kernel_rfl) ?_
         (repeat ((try refine Vc.mk' ?_);simp (maxSteps:=6000000) only [go_sem,rG,hT,Nv,Jn,I8,Jm,hpre,hrd,hbL,hbJ,hv1,Ae t1,t2,AH,YA,kk,ii,hlt,hln,LO h3,NY h3,Bh s3,c2k]))
         refine .mk (i+1) hlt (by omega) (by
          simp only [rG]
          rw [hnx]
          refine KC (top+5) hcl (by omega) ?_ ?_ ?_ ?_ ?_ (hob hlo)
          ·simp [Nv,Ge,Jk,Az,Co,EF,DE,Sc.Az hlo s3]
          ·simp [BQ.set,BQ.refl]
          ·simp [AZ,AG,Bk]
          ·simp [AG]
          ·simp [AZ,AG])
        ·skip
         have hpre:∀ {h':Hp},h' (top+1)=B6 (.pointer (some ⟨top+1,0,none⟩)) (AA (top+2) T)→h' (top+2)=Fi T→h' (top+4)=some (.cells true 1 [.int .i64 (at' S.U i).Cj, .int .i64 (at' S.U i).To, .int .i64 (at' S.U i).JK, .int .i64 (at' S.U i).By])→J4 h' [100,101,108,97,121] [] (.slice (some ⟨top+4,0,none⟩) 4 4) (top+1)=True:=fun a b c=>eq_true (VS (ns:= [(at' S.U i).Cj,(at' S.U i).To,(at' S.U i).JK,(at' S.U i).By]) (Bx (by omega) a b) (by simp only [List.length_cons,List.length_nil];omega) (.inr c) (by omega) (by omega) (by omega) (by simp) (by simp [hM]))
         have hrd:∀ {h':Hp},h' (top+4)=some (.cells true 1 [.int .i64 (at' S.U i).Cj, .int .i64 (at' S.U i).To, .int .i64 (at' S.U i).JK, .int .i64 (at' S.U i).By])→AY.rd h' (.slice (some ⟨top+4,0,none⟩) 4 4)= [(at' S.U i).Cj,(at' S.U i).To,(at' S.U i).JK,(at' S.U i).By]:=fun a=>vj (ns:= [(at' S.U i).Cj,(at' S.U i).To,(at' S.U i).JK,(at' S.U i).By]) a (by simp)
         have hln:DI [100,101,108,97,121] [] [(at' S.U i).Cj,(at' S.U i).To,(at' S.U i).JK,(at' S.U i).By] = FZ (at' S.U i):=by simp [FZ,Tj,c1k,c2k]
         refine CW.vc EW [0,1,2,3,4,5,6,8,9,11,13,15,16,17,22,27,46,47,48,49,53,65,66,67,68,83,84,85,86,90,102,113,130,131,132,133,142,149] (by kernel_rfl) ?_
         (repeat ((try refine Vc.mk' ?_);simp (maxSteps:=6000000) only [go_sem,rG,hT,Nv,Jn,I8,Jm,hpre,hrd,hbL,hbJ,hv1,Ae t1,t2,AH,YA,kk,ii,hlt,hln,LO h3,NY h3,Bh s3,c1k,c2k]))
         refine .mk (i+1) hlt (by omega) (by
          simp only [rG]
          rw [hnx]
          refine KC (top+5) hcl (by omega) ?_ ?_ ?_ ?_ ?_ (hob hlo)
          ·simp [Nv,Ge,Jk,Az,Co,EF,DE,Sc.Az hlo s3]
          ·simp [BQ.set,BQ.refl]
          ·simp [AZ,AG,Bk]
          ·simp [AG]
          ·simp [AZ,AG])
      ·have hk2:i=S.U.length:=by omega
       subst hk2
       rw [List.take_length] at hTn hTl
       generalize hT:CV S ++ BK C2 S.R ++ BK Eh S.K ++ BK FZ S.U=T at hTn hTl
       have ii:¬((S.U.length:Int) < (S.U.length:Int)):=by omega
       have hbL:∀ {h':Hp},h' (top+1)=B6 (.pointer (some ⟨top+1,0,none⟩)) (AA (top+2) T)→h' (top+2)=Fi T→IQ h' (top+1)=T:=fun a b=>(Bx (by omega) a b).Kj
       have hbJ:∀ {h':Hp} {t:Nat},h' (top+1)=B6 (.pointer (some ⟨top+1,0,none⟩)) (AA (top+2) T)→h' (top+2)=Fi T→GR h' (top+1) t=top+2:=fun a b=>(Bx (by omega) a b).Ma hTn
       have hpre:∀ {h':Hp},h' (top+1)=B6 (.pointer (some ⟨top+1,0,none⟩)) (AA (top+2) T)→h' (top+2)=Fi T→J4 h' [112,108,97,121] [] (.slice none 0 0) (top+1)=True:=fun a b=>eq_true (VS (q:=top) (ns:= []) (Bx (by omega) a b) (by simp only [List.length_cons,List.length_nil];omega) (.inl rfl) (by omega) (by omega) (by omega) (by simp) (by simp))
       have hrd:∀ {h':Hp},AY.rd h' (.slice none 0 0)= []:=fun {h'}=>(BP.nils (E:=AY) (hp:=h')).rd
       have hln:DI [112,108,97,121] [] [] = DI aB [] []:=rfl
       have hH:T ++ DI aB [] [] = Hr S:=by rw [←hT];rfl
       have hHl:(Hr S).length≤1000000100:=by rw [←hH,List.length_append];have:(DI aB [] []).length=5:=rfl;omega
       have hHn:Hr S≠ []:=by rw [←hH];simp [hTn]
       refine CW.vc EW [0,1,2,3,4,5,6,8,9,11,13,15,16,17,22,27,46,47,48,49,53,65,66,67,68,83,84,85,86,90,102,113,130,131,132,133,142,149] (by kernel_rfl) ?_
       (repeat ((try refine Vc.mk' ?_);simp (maxSteps:=6000000) only [go_sem,rG,List.take_length,hT,Nv,Jn,Bk,ii,decide_false,I8,Jm,hpre,hrd,hbL,hbJ,hv1,Ae t1,t2,AH,YA,hln,hH,VQ h4]))
       clear hpre hbL hbJ hT hH hTn hTl
       refine CW.DC (wj hp top S r k u o ops) (fun i=>i≤ops.length∧∀x∈ops.take i,(IH x).isSome=true) (fun i=>ops.length - i) 0 ⟨Nat.zero_le _,by simp⟩ ?_ ?_
       ·simp only [wj,List.take_zero,BK,List.append_nil]
        refine KC (top+3) hcl (by omega) ?_ ?_ ?_ ?_ ?_ (hob hlo)
        ·simp [Nv,Ge,Jk,Az,Co,EF,DE,Sc.Az hlo s4]
        ·simp [BQ.set,BQ.refl]
        ·simp [AZ,AG,Bk]
        ·simp [AG]
        ·simp [AZ,AG]
       ·rintro i ⟨hi,hsm⟩
        have hTn:Hr S ++ BK J6 (ops.take i)≠ []:=by simp [hHn]
        have hTl:(Hr S ++ BK J6 (ops.take i)).length≤20000000000:=by
         have:=FI (f:=J6) (n:=8001) (l:=ops.take i) fun c hc=>iT (hO c (List.mem_of_mem_take hc))
         rw [List.length_take] at this
         simp only [List.length_append];omega
        by_cases hlt:i < ops.length
        ·have ii:((i:Int) < (ops.length:Int)):=by omega
         have kk:Ap .i64 ((i:Int)+1)=((i+1:Nat):Int):=Bf hlt (by omega)
         have hmem:at' ops i∈ops:=by rw [CO _ _ hlt];exact List.getElem_mem hlt
         have hM:=hO _ hmem
         have hI:=R5 hM
         have hEn:=Br (x:=at' ops i)
         simp only [Ai] at hI hEn
         have hnx:Hr S ++ BK J6 (ops.take (i+1))=(Hr S ++ BK J6 (ops.take i)) ++ J6 (at' ops i):=by rw [DN hlt,Ix];simp only [List.append_assoc]
         generalize hT:Hr S ++ BK J6 (ops.take i)=T at hTn hTl hnx
         have hbL:∀ {h':Hp},h' (top+1)=B6 (.pointer (some ⟨top+1,0,none⟩)) (AA (top+2) T)→h' (top+2)=Fi T→IQ h' (top+1)=T:=fun a b=>(Bx (by omega) a b).Kj
         have hbJ:∀ {h':Hp} {t:Nat},h' (top+1)=B6 (.pointer (some ⟨top+1,0,none⟩)) (AA (top+2) T)→h' (top+2)=Fi T→GR h' (top+1) t=top+2:=fun a b=>(Bx (by omega) a b).Ma hTn
         cases hl:IH (at' ops i) with
         |none=>
          have e:nc S ops=([],2):=by unfold nc;rw [if_neg (by simp [c1]),if_neg c2,Tf hmem hl]
          rw [e]
          have hlv:=Sb hl
          refine CW.vc EW [0,1,2,3,4,5,6,8,9,11,13,15,16,17,22,27,46,47,48,49,53,65,66,67,68,83,84,85,86,90,102,113,130,131,132,133,142,149] (by kernel_rfl) ?_
          (repeat ((try refine Vc.mk' ?_);simp (maxSteps:=6000000) only [go_sem,wj,hT,Nv,Jn,ii,hlt,hv1,Ae t1,kH,Ow,hI,hEn,hlv,w5,bA h4,ic h4,Bh s4]))
         |some w=>
          have hlv:=S5 hl
          obtain ⟨w1,w2⟩:=aQ hM hl
          have w2':(w= [])=False:=eq_false w2
          have hln:DI w [] [] = J6 (at' ops i):=by unfold J6;rw [hl];rfl
          have hpre:∀ {h':Hp},h' (top+1)=B6 (.pointer (some ⟨top+1,0,none⟩)) (AA (top+2) T)→h' (top+2)=Fi T→J4 h' w [] (.slice none 0 0) (top+1)=True:=fun a b=>eq_true (VS (q:=top) (ns:= []) (Bx (by omega) a b) (by simp only [List.length_nil];omega) (.inl rfl) (by omega) (by omega) (by omega) (by simp) (by simp))
          have hrd:∀ {h':Hp},AY.rd h' (.slice none 0 0)= []:=fun {h'}=>(BP.nils (E:=AY) (hp:=h')).rd
          refine CW.vc EW [0,1,2,3,4,5,6,8,9,11,13,15,16,17,22,27,46,47,48,49,53,65,66,67,68,83,84,85,86,90,102,113,130,131,132,133,142,149] (by kernel_rfl) ?_
          (repeat ((try refine Vc.mk' ?_);simp (maxSteps:=6000000) only [go_sem,wj,hT,kH,Ow,hI,hEn,hlv,w2',Nv,Jn,I8,Jm,hpre,hrd,hbL,hbJ,hv1,Ae t1,t2,AH,YA,kk,ii,hlt,hln,bA h4,ic h4,Bh s4]))
          refine .mk (i+1) ⟨hlt,fun x hx=>by rw [DN hlt] at hx;rcases List.mem_append.1 hx with h | h;exact hsm x h;rw [List.mem_singleton.1 h,hl];rfl⟩ (by omega) (by
           simp only [wj]
           rw [hnx]
           refine KC (top+4) hcl (by omega) ?_ ?_ ?_ ?_ ?_ (hob hlo)
           ·simp [Nv,Ge,Jk,Az,Co,EF,DE,Sc.Az hlo s4]
           ·simp [BQ.set,BQ.refl]
           ·simp [AZ,AG,Bk]
           ·simp [AG]
           ·simp [AZ,AG])
        ·have hk2:i=ops.length:=by omega
         subst hk2
         rw [List.take_length] at hTn hTl hsm
         have e:nc S ops=if 65536 < (Hr S ++ BK J6 ops).length then ([],3) else (Hr S ++ BK J6 ops,0):=by unfold nc;rw [if_neg (by simp [c1]),if_neg c2,TS hsm]
         rw [e]
         generalize hT:Hr S ++ BK J6 ops=T at hTn hTl
         have hbL:∀ {h':Hp},h' (top+1)=B6 (.pointer (some ⟨top+1,0,none⟩)) (AA (top+2) T)→h' (top+2)=Fi T→IQ h' (top+1)=T:=fun a b=>(Bx (by omega) a b).Kj
         have hbJ:∀ {h':Hp} {t:Nat},h' (top+1)=B6 (.pointer (some ⟨top+1,0,none⟩)) (AA (top+2) T)→h' (top+2)=Fi T→GR h' (top+1) t=top+2:=fun a b=>(Bx (by omega) a b).Ma hTn
         have ii:¬((ops.length:Int) < (ops.length:Int)):=by omega
         have hpL:∀ {h':Hp},h' (top+1)=B6 (.pointer (some ⟨top+1,0,none⟩)) (AA (top+2) T)→h' (top+2)=Fi T→(∃a j l_1,Dh h' (top+1) a j l_1)=True:=fun a b=>eq_true ⟨_,_,_,Bx (by omega) a b⟩
         have hpS:∀ {h':Hp},h' (top+1)=B6 (.pointer (some ⟨top+1,0,none⟩)) (AA (top+2) T)→h' (top+2)=Fi T→(∃a j l_1,Dh h' (top+1) a j l_1∧l_1.length≤140737488355328)=True:=fun a b=>eq_true ⟨_,_,_,Bx (by omega) a b,by omega⟩
         by_cases c5:65536 < T.length
         ·have c5':(65536:Int) < (T.length:Int):=by omega
          rw [if_pos c5]
          refine CW.vc EW [0,1,2,3,4,5,6,8,9,11,13,15,16,17,22,27,46,47,48,49,53,65,66,67,68,83,84,85,86,90,102,113,130,131,132,133,142,149] (by kernel_rfl) ?_
          (repeat ((try refine Vc.mk' ?_);simp (maxSteps:=6000000) only [go_sem,wj,List.take_length,hT,Nv,Jn,ii,decide_false,fJ,Mk,hpL,hbL,c5',w5]))
         ·have c5':¬(65536:Int) < (T.length:Int):=by omega
          rw [if_neg c5]
          refine CW.vc EW [0,1,2,3,4,5,6,8,9,11,13,15,16,17,22,27,46,47,48,49,53,65,66,67,68,83,84,85,86,90,102,113,130,131,132,133,142,149] (by kernel_rfl) ?_
          (repeat ((try refine Vc.mk' ?_);simp (maxSteps:=6000000) only [go_sem,wj,List.take_length,hT,Nv,Jn,ii,decide_false,fJ,Mk,wE,JA,hpL,hpS,hbL,hbJ,c5',w5]))
end Go.Proofs.YthlhnangbinhoaaGreatDoor.Dm
