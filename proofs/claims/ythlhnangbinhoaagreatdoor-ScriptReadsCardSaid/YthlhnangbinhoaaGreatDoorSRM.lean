/- The document's words and numbers, walked. -/
import Derived.Test.YthlhnangbinhoaaGreatDoorSRB
set_option linter.unusedVariables false
namespace Go.Proofs.YthlhnangbinhoaaGreatDoor.Dm
open Go.Dm
set_option maxHeartbeats 16000000
set_option maxRecDepth 20000
noncomputable def GR2:FuncId→BE:=BV (BV GR1 61 UK) 63 UN
theorem Ms:Bp Tryz.prog tt.get GR2:=(LU.add u6).add xL
theorem NW {c:UInt8}:∀ {x:List UInt8} {o:List (List UInt8)} {p:List UInt8},Bl x=o ++ [p]→Bl (x ++ [c])=if c=32 then o ++ [p, []] else o ++ [p ++ [c]]
 | [],o,p,h=>by
  have h: [[]] = o ++ [p]:=h
  cases o with
  |nil=>
   simp at h;subst h
   by_cases hc:c=32 <;> simp [Bl,hc]
  |cons a o=>simp at h
 |a :: r,o,p,h=>by
  rw [List.cons_append]
  by_cases ha:a=32
  ·rw [Bl,if_pos ha] at h ⊢
   cases o with
   |nil=>simp at h;exact absurd h.2 (Kc r)
   |cons b o=>
    rw [List.cons_append,List.cons.injEq] at h
    rw [NW h.2,←h.1]
    by_cases hc:c=32
    ·rw [if_pos hc,if_pos hc];rfl
    ·rw [if_neg hc,if_neg hc];rfl
  ·obtain ⟨hd,t,e⟩:=List.exists_cons_of_ne_nil (Kc r)
   have h1:Bl (a :: r)=(a :: hd) :: t:=by rw [Bl,if_neg ha,e]
   rw [h1] at h
   rw [Bl,if_neg ha]
   cases o with
   |nil=>
    simp at h
    obtain ⟨rfl,rfl⟩:=h
    rw [NW (x:=r) (o:= []) (p:=hd) e]
    by_cases hc:c=32 <;> simp [hc]
   |cons b o=>
    rw [List.cons_append,List.cons.injEq] at h
    obtain ⟨rfl,rfl⟩:=h
    rw [NW (x:=r) (o:=hd :: o) (p:=p) e]
    by_cases hc:c=32 <;> simp [hc]
def D8 (s:List UInt8):Nat→List (List UInt8)×Nat
 |0=>([],0)
 |i+1=>if i=s.length∨at' s i=32 then ((D8 s i).1 ++ [(s.drop (D8 s i).2).take (i - (D8 s i).2)],i+1) else D8 s i
theorem Vd {s:List UInt8}:∀i,i≤s.length→(D8 s i).2≤i∧(D8 s i).1.length≤i∧Bl (s.take i)=(D8 s i).1 ++ [(s.drop (D8 s i).2).take (i - (D8 s i).2)]
 |0,_=>by simp [D8,Bl]
 |i+1,h=>by
  obtain ⟨h1,h2,h3⟩:=Vd (s:=s) i (by omega)
  have ht:s.take (i+1)=s.take i ++ [at' s i]:=by rw [List.take_succ_eq_append_getElem (by omega),BS _ _ (by omega)]
  have hs:=NW (c:=at' s i) h3
  rw [ht,hs]
  by_cases c:at' s i=32
  ·have e:D8 s (i+1)=((D8 s i).1 ++ [(s.drop (D8 s i).2).take (i - (D8 s i).2)],i+1):=by rw [D8,if_pos (.inr c)]
   rw [if_pos c,e]
   refine ⟨Nat.le_refl _,by show ((D8 s i).1 ++ [(s.drop (D8 s i).2).take (i - (D8 s i).2)]).length≤i+1;rw [List.length_append];simp only [List.length_cons,List.length_nil];omega,by simp⟩
  ·have e:D8 s (i+1)=D8 s i:=by rw [D8,if_neg (by intro h';rcases h' with h' | h';omega;exact c h')]
   rw [if_neg c,e]
   refine ⟨by omega,by omega, ?_⟩
   have hx:i - (D8 s i).2 < (s.drop (D8 s i).2).length:=by rw [List.length_drop];omega
   rw [show i+1 - (D8 s i).2=(i - (D8 s i).2)+1 from by omega,List.take_succ_eq_append_getElem hx,List.getElem_drop]
   have:s[(D8 s i).2+(i - (D8 s i).2)]'(by omega)=at' s i:=by rw [BS _ _ (by omega)];congr 1;omega
   rw [this]
theorem rL (s:List UInt8):(D8 s (s.length+1)).1=Bl s:=by
 obtain ⟨_,_,h3⟩:=Vd (s:=s) s.length (Nat.le_refl _)
 rw [List.take_length] at h3
 rw [D8,if_pos (.inl rfl)]
 exact h3.symm
def Gi:BE:= .det (fun args _ _=>match args with | [.string ⟨⟨s⟩⟩]=>s.length≤16000000 | _=>False) (fun args _ top=>match args with | [s]=>(AA top (Bl (strOf s)), [(top,AD AB (Bl (strOf s)))],top+1) | _=>(undef, [],top))
def lD (hp:Hp)(top:Nat)(s:List UInt8)(i:Nat):SS:=⟨[(0, .string ⟨⟨s⟩⟩,true),(3,AA top (D8 s i).1,true),(4, .int .i64 ((D8 s i).2:Int),true),(5, .int .i64 (i:Int),true)],hp.Ac [(top,AD AB (D8 s i).1)],top+1⟩
theorem ef:Ag Tryz.prog 51 Gi:=by
 refine .Eh aY ?_
 intro args hp top hpre hcl hsc
 match args,hpre with
 | [.string ⟨⟨s⟩⟩],hs=>
 simp only [AH]
 refine AJ.Af Am aY rfl 32 rfl [.tmp 2] rfl (show 1≤32 by decide) ?_
 refine CW.vc Ms [0,2,3,4,5,9,21] (by kernel_rfl) ?_
 (repeat ((try refine Vc.mk' ?_);simp (maxSteps:=6000000) only [go_sem]))
 refine CW.Bc (lD hp top s) (fun i=>i≤s.length+1) (fun i=>s.length+1 - i) 0 (Nat.zero_le _) ?_ ?_
 ·exact (by refine Al.mk' [top] hcl (by simp) (by simp) rfl (AF ?_) ?_ ?_ <;> simp [D8,DD,Dp])
 ·intro i hi
  by_cases c1:i≤s.length
  ·have c1':(i:Int)≤(s.length:Int):=by omega
   have c0:¬s.length < i:=by omega
   obtain ⟨v1,v2,_⟩:=Vd (s:=s) i c1
   have kk:Ad .i64 ((i:Int)+1)=((i+1:Nat):Int):=by rw [wrap64 (by omega) (by omega)];omega
   by_cases c2:i=s.length
   ·have c2':((i:Int)=(s.length:Int))=True:=eq_true (by omega)
    have e:D8 s (i+1)=((D8 s i).1 ++ [(s.drop (D8 s i).2).take (i - (D8 s i).2)],i+1):=by rw [D8,if_pos (.inl c2)]
    have n1:((D8 s i).2:Int)≤(i:Int):=by omega
    have sl:=fun (h':Hp)=>JJ (h':=h') (s:=s) v1 c1
    have hap:∀ {h':Hp} {j q t:Nat},h' j=AD AB (D8 s i).1→h' q=some (.cells true 1 [.string ⟨⟨(s.drop (D8 s i).2).take (i - (D8 s i).2)⟩⟩])→AK tt.get h' t [67,67] (AA j (D8 s i).1) (.slice (some ⟨q,0,none⟩) 1 1)=some (AA t ((D8 s i).1 ++ [(s.drop (D8 s i).2).take (i - (D8 s i).2)]),Bu j (D8 s i).1 t (AD AB ((D8 s i).1 ++ [(s.drop (D8 s i).2).take (i - (D8 s i).2)])),t+1):=fun {h'} {j} {q} {t} a1 a2=>by
     have e3:cellsOf (h' q)=AB.enc ((s.drop (D8 s i).2).take (i - (D8 s i).2)):=by rw [a2];rfl
     have:=GU (hp:=h') (b:=j) (top:=t) (k:=q) a1 (by rw [e3];exact a2) (by rw [e3,AB.h]) (CO (by omega) (by decide))
     rwa [e3,AB.h] at this
    refine CW.vc Ms [0,2,3,4,5,9,21] (by kernel_rfl) ?_
    (repeat ((try refine Vc.mk' ?_);simp (maxSteps:=6000000) only [go_sem,sl,hap,lD,Ap,c0,decide_false,Bool.not_false,c2',kk]))
    refine .mk (i+1) (by omega) (by omega) ((by refine Al.mk' [top+2] hcl (by simp) (by simp) rfl (AF ?_) ?_ ?_ <;> simp [e]))
   ·have c2':¬((i:Int)=(s.length:Int)):=by omega
    have hlt:i < s.length:=by omega
    have hat:(s[i]?.getD 0)=at' s i:=rfl
    have sl:=fun (h':Hp)=>JJ (h':=h') (s:=s) v1 c1
    have hap:∀ {h':Hp} {j q t:Nat},h' j=AD AB (D8 s i).1→h' q=some (.cells true 1 [.string ⟨⟨(s.drop (D8 s i).2).take (i - (D8 s i).2)⟩⟩])→AK tt.get h' t [67,67] (AA j (D8 s i).1) (.slice (some ⟨q,0,none⟩) 1 1)=some (AA t ((D8 s i).1 ++ [(s.drop (D8 s i).2).take (i - (D8 s i).2)]),Bu j (D8 s i).1 t (AD AB ((D8 s i).1 ++ [(s.drop (D8 s i).2).take (i - (D8 s i).2)])),t+1):=fun {h'} {j} {q} {t} a1 a2=>by
     have e3:cellsOf (h' q)=AB.enc ((s.drop (D8 s i).2).take (i - (D8 s i).2)):=by rw [a2];rfl
     have:=GU (hp:=h') (b:=j) (top:=t) (k:=q) a1 (by rw [e3];exact a2) (by rw [e3,AB.h]) (CO (by omega) (by decide))
     rwa [e3,AB.h] at this
    by_cases c3:at' s i=32
    ·have hc:(Int.ofNat (s[i]?.getD 0).toNat=32)=True:=eq_true (by rw [hat,c3];rfl)
     have e:D8 s (i+1)=((D8 s i).1 ++ [(s.drop (D8 s i).2).take (i - (D8 s i).2)],i+1):=by rw [D8,if_pos (.inr c3)]
     have n1:((D8 s i).2:Int)≤(i:Int):=by omega
     refine CW.vc Ms [0,2,3,4,5,9,21] (by kernel_rfl) ?_
     (repeat ((try refine Vc.mk' ?_);simp (maxSteps:=6000000) only [go_sem,sl,hap,lD,Ap,c0,decide_false,Bool.not_false,c2',kk,Kb,hlt,hc,decide_true]))
     refine .mk (i+1) (by omega) (by omega) ((by refine Al.mk' [top+2] hcl (by simp) (by simp) rfl (AF ?_) ?_ ?_ <;> simp [e]))
    ·have hc:(Int.ofNat (s[i]?.getD 0).toNat=32)=False:=eq_false (by
      rw [hat];intro h
      apply c3
      apply UInt8.toNat.inj
      have:(at' s i).toNat=32:=Int.ofNat.inj h
      rw [this];rfl)
     have e:D8 s (i+1)=D8 s i:=by rw [D8,if_neg (by rintro (h' | h');exact c2 h';exact c3 h')]
     refine CW.vc Ms [0,2,3,4,5,9,21] (by kernel_rfl) ?_
     (repeat ((try refine Vc.mk' ?_);simp (maxSteps:=6000000) only [go_sem,lD,Ap,c0,decide_false,Bool.not_false,c2',kk,Kb,hlt,hc,decide_false]))
     refine .mk (i+1) (by omega) (by omega) ((by refine Al.mk' [top] hcl (by simp) (by simp) rfl (AF ?_) ?_ ?_ <;> simp [e]))
  ·have hi2:i=s.length+1:=by omega
   subst hi2
   have c1':¬((s.length+1:Nat):Int)≤(s.length:Int):=by omega
   refine CW.vc Ms [0,2,3,4,5,9,21] (by kernel_rfl) ?_
   (repeat ((try refine Vc.mk' ?_);simp (maxSteps:=6000000) only [go_sem,lD,Ap]))
   (refine ⟨[top],by simp,by simp,by simp, ?_, ?_, ?_⟩ <;> simp [rL])
def LO (k:Nat):BE:= .pure (fun args _=>match args with | [.int .i64 n]=>0≤n∧n≤9223372036854775807∧n < (10 ^ k:Nat) | _=>False) (fun args _=>match args with | [n]=> .string ⟨⟨Lib.itoa (intOf n)⟩⟩ | _=>undef)
theorem WK {h':Hp}{b:Nat}{n:Int}:CQ tt.get (h'.set b (some (.cells true 1 [.int .u8 n]))) 69 9 (.slice (some ⟨b,0,none⟩) 1 1)=(.string ⟨⟨[UInt8.ofNat n.toNat]⟩⟩,True):=ZM DU I8 F7 (AY ..)
theorem w48 {d:Int}(h0:0≤d)(h1:d < 10):Ad .u8 (Ad .i64 (48+d))=48+d:=by
 rw [wrap64 (by omega) (by omega)]
 exact Gh (by simp [IntKind.signed];omega) (by simp [IntKind.signed,IntKind.bits];omega)
theorem jL {n:Int}(h0:0≤n)(h1:n < 10):Lib.itoa n= [UInt8.ofNat (48+n).toNat]:=by
 obtain ⟨u,rfl⟩:=Int.eq_ofNat_of_zero_le h0
 rw [Lib.itoa_nonneg,FU (by omega)]
 congr 2
theorem sg {n:Int}(h1:10≤n):Lib.itoa n=Lib.itoa (n / 10) ++ [UInt8.ofNat (48+n % 10).toNat]:=by
 obtain ⟨u,rfl⟩:=Int.eq_ofNat_of_zero_le (show 0≤n by omega)
 rw [show (u:Int) / 10=((u / 10:Nat):Int) from rfl,Lib.itoa_nonneg,Lib.itoa_nonneg,HV (by omega)]
 congr 3
theorem pO:Ag Tryz.prog 58 (LO 0):=by
 refine .EK Kt ?_ ?_
 ·rintro args hp h
  match args,h with
  | [.int .i64 n],_=>rfl
 intro args hp hpre top hcl hsc
 match args,hpre with
 | [.int .i64 n],⟨n0,n1,nk⟩=>
 simp only [intOf_int]
 have nk:n < 1:=nk
 have c0:(n= -9223372036854775808)=False:=eq_false (by omega)
 have c1:(n < 0)=False:=eq_false (by omega)
 have c2:(n < 10)=True:=eq_true (by omega)
 have w:=w48 n0 (by omega)
 rw [jL n0 (by omega)]
 refine AJ.Af Am Kt rfl 28 rfl [.tmp 2] rfl (show 1≤28 by decide) ?_
 refine CW.vc Ms [0,2,4,6,12,1000007] (by kernel_rfl) ?_
 (repeat ((first | refine Vc.mk' ?_ | refine CW.Db Ms 7 [0,2,4,6,12,1000007] [(2,7)] (by kernel_rfl) (by kernel_rfl) ?_ | skip);simp (maxSteps:=6000000) only [go_sem,c0,c1,c2,w,WK,decide_true,decide_false]))
theorem pN {j:Nat}(ih:Ag Tryz.prog 58 (LO j)):Ag Tryz.prog 58 (LO (j+1)):=by
 have eN:Bp Tryz.prog tt.get (BV GR2 58 (LO j)):=Ms.add ih
 have hG:BV GR2 58 (LO j) 58= .pure (fun args _=>match args with | [.int .i64 n]=>0≤n∧n≤9223372036854775807∧n < (10 ^ j:Nat) | _=>False) (fun args _=>match args with | [n]=> .string ⟨⟨Lib.itoa (intOf n)⟩⟩ | _=>undef):=rfl
 refine .EK Kt ?_ ?_
 ·rintro args hp h
  match args,h with
  | [.int .i64 n],_=>rfl
 intro args hp hpre top hcl hsc
 match args,hpre with
 | [.int .i64 n],⟨n0,n1,nk⟩=>
 simp only [intOf_int]
 have c0:(n= -9223372036854775808)=False:=eq_false (by omega)
 have c1:(n < 0)=False:=eq_false (by omega)
 refine AJ.Af Am Kt rfl 28 rfl [.tmp 2] rfl (show 1≤28 by decide) ?_
 by_cases c:n < 10
 ·have c2:=eq_true c
  have w:=w48 n0 c
  rw [jL n0 c]
  refine CW.vc eN [0,2,4,6,12,1000007] (by kernel_rfl) ?_
  (repeat ((first | refine Vc.mk' ?_ | refine CW.Db eN 7 [0,2,4,6,12,1000007] [(2,7)] (by kernel_rfl) (by kernel_rfl) ?_ | skip);simp (maxSteps:=6000000) only [go_sem,c0,c1,c2,w,WK,decide_true,decide_false]))
 ·have c2:=eq_false c
  have hq:IntKind.i64.wrap (n.tdiv 10)=n / 10:=by
   rw [Int.tdiv_eq_ediv_of_nonneg n0,←En,wrap64 (by omega) (by omega)]
  have hr:n.tmod 10=n % 10:=Int.tmod_eq_emod_of_nonneg n0
  have w:=w48 (d:=n % 10) (by omega) (by omega)
  have g0:(0≤n / 10)=True:=eq_true (by omega)
  have g1:(n / 10≤9223372036854775807)=True:=eq_true (by omega)
  have g2:(n / 10 < (10 ^ j:Nat))=True:=eq_true (by rw [Nat.pow_succ] at nk;omega)
  have hl:=Lib.itoa_length_le (n / 10) (by omega) (by omega)
  have sl:((Lib.itoa (n / 10)).length+1≤4611686018427387904)=True:=eq_true (by omega)
  have sl2:((Lib.itoa (n / 10)).length≤4611686018427387903)=True:=eq_true (by omega)
  rw [sg (by omega)]
  refine CW.vc eN [0,2,4,6,12,1000007] (by kernel_rfl) ?_
  (repeat ((first | refine Vc.mk' ?_ | refine CW.Db eN 7 [0,2,4,6,12,1000007] [(2,7)] (by kernel_rfl) (by kernel_rfl) ?_ | skip);simp (maxSteps:=6000000) only [go_sem,c0,c1,c2,hG,hq,hr,g0,g1,g2,w,WK,sl,decide_false]))
theorem sw:∀k,Ag Tryz.prog 58 (LO k)
 |0=>pO
 |k+1=>pN (sw k)
noncomputable def GR3:FuncId→BE:=BV (BV GR2 51 Gi) 58 (LO 19)
theorem Mt:Bp Tryz.prog tt.get GR3:=(Ms.add ef).add (sw 19)
theorem ry:GR3 58=LO 19:=rfl
def FE:BE:= .pure (fun args _=>match args with | [.int .i64 n]=>Ev n | _=>False) (fun args _=>match args with | [n]=> .string ⟨⟨Lib.itoa (intOf n)⟩⟩ | _=>undef)
theorem AA8:Ag Tryz.prog 58 FE:=by
 refine .EK Kt ?_ ?_
 ·rintro args hp h
  match args,h with
  | [.int .i64 n],_=>rfl
 intro args hp hpre top hcl hsc
 match args,hpre with
 | [.int .i64 n],⟨n0,n1⟩=>
 simp only [intOf_int]
 refine AJ.Af Am Kt rfl 28 rfl [.tmp 2] rfl (show 1≤28 by decide) ?_
 by_cases c0:n= -9223372036854775808
 ·subst c0
  have e:Lib.itoa (-9223372036854775808)= [45,57,50,50,51,51,55,50,48,51,54,56,53,52,55,55,53,56,48,56]:=by decide +kernel
  rw [e]
  refine CW.vc Mt [0,2,4,6,12,1000007] (by kernel_rfl) ?_
  (repeat ((first | refine Vc.mk' ?_ | refine CW.Db Mt 7 [0,2,4,6,12,1000007] [(2,7)] (by kernel_rfl) (by kernel_rfl) ?_ | skip);simp (maxSteps:=6000000) only [go_sem]))
 ·have c0':=eq_false c0
  by_cases c1:n < 0
  ·have c1':=eq_true c1
   obtain ⟨m,rfl,hm⟩:∃m:Int,n= -m∧0 < m:=⟨-n,by omega,by omega⟩
   have w:Ad .i64 (0 - -m)=m:=by rw [show 0 - -m=m by omega,wrap64 (by omega) (by omega)]
   have g0:(0≤m)=True:=eq_true (by omega)
   have g1:(m≤9223372036854775807)=True:=eq_true (by omega)
   have g2:(m < ((10 ^ 19:Nat):Int))=True:=eq_true (by omega)
   have hl:=Lib.itoa_length_le m (by omega) (by omega)
   have sl:(1+(Lib.itoa m).length≤4611686018427387904)=True:=eq_true (by omega)
   have sl2:((Lib.itoa m).length+1≤4611686018427387904)=True:=eq_true (by omega)
   have e:Lib.itoa (-m)=45 :: Lib.itoa m:=by
    obtain ⟨u,rfl⟩:=Int.eq_ofNat_of_zero_le (show 0≤m by omega)
    cases u with
    |zero=>omega
    |succ u=>
     have e0:Lib.itoa (-((u+1:Nat):Int))=45 :: Lib.decDigits (u+1):=by unfold Lib.itoa;rw [if_pos (by omega)];congr 2
     rw [e0,Lib.itoa_nonneg]
   rw [e]
   refine CW.vc Mt [0,2,4,6,12,1000007] (by kernel_rfl) ?_
   (repeat ((first | refine Vc.mk' ?_ | refine CW.Db Mt 7 [0,2,4,6,12,1000007] [(2,7)] (by kernel_rfl) (by kernel_rfl) ?_ | skip);simp (maxSteps:=6000000) only [go_sem,c0',c1',ry,LO,w,g0,g1,g2,sl,decide_true,decide_false]))
  ·have c1':=eq_false c1
   by_cases c:n < 10
   ·have c2:=eq_true c
    have w:=w48 (d:=n) (by omega) c
    rw [jL (by omega) c]
    refine CW.vc Mt [0,2,4,6,12,1000007] (by kernel_rfl) ?_
    (repeat ((first | refine Vc.mk' ?_ | refine CW.Db Mt 7 [0,2,4,6,12,1000007] [(2,7)] (by kernel_rfl) (by kernel_rfl) ?_ | skip);simp (maxSteps:=6000000) only [go_sem,c0',c1',c2,w,WK,decide_true,decide_false]))
   ·have c2:=eq_false c
    have hq:IntKind.i64.wrap (n.tdiv 10)=n / 10:=by
     rw [Int.tdiv_eq_ediv_of_nonneg (by omega),←En,wrap64 (by omega) (by omega)]
    have hr:n.tmod 10=n % 10:=Int.tmod_eq_emod_of_nonneg (by omega)
    have w:=w48 (d:=n % 10) (by omega) (by omega)
    have g0:(0≤n / 10)=True:=eq_true (by omega)
    have g1:(n / 10≤9223372036854775807)=True:=eq_true (by omega)
    have g2:(n / 10 < ((10 ^ 19:Nat):Int))=True:=eq_true (by omega)
    have hl:=Lib.itoa_length_le (n / 10) (by omega) (by omega)
    have sl:((Lib.itoa (n / 10)).length+1≤4611686018427387904)=True:=eq_true (by omega)
    have sl2:((Lib.itoa (n / 10)).length≤4611686018427387903)=True:=eq_true (by omega)
    rw [sg (by omega)]
    refine CW.vc Mt [0,2,4,6,12,1000007] (by kernel_rfl) ?_
    (repeat ((first | refine Vc.mk' ?_ | refine CW.Db Mt 7 [0,2,4,6,12,1000007] [(2,7)] (by kernel_rfl) (by kernel_rfl) ?_ | skip);simp (maxSteps:=6000000) only [go_sem,c0',c1',c2,ry,LO,hq,hr,g0,g1,g2,w,WK,sl,decide_false]))
end Go.Proofs.YthlhnangbinhoaaGreatDoor.Dm
set_option linter.unusedVariables false
namespace Go.Proofs.YthlhnangbinhoaaGreatDoor.Dm
open Go.Dm
set_option maxHeartbeats 16000000
set_option maxRecDepth 20000
noncomputable def GR4:FuncId→BE:=BV GR3 58 FE
theorem Ow:Bp Tryz.prog tt.get GR4:=Mt.add AA8
theorem rz:GR4 58=FE:=rfl
def bj (s:List UInt8):Value:=if s= []∨20 < s.length then .tuple ⟨[.int .i64 0, .bool false]⟩ else .tuple ⟨[.int .i64 (EL s), .bool (decide (Lib.itoa (EL s)=s))]⟩
def Mj:BE:= .pure (fun args _=>match args with | [.string ⟨⟨s⟩⟩]=>s.length≤100000000 | _=>False) (fun args _=>match args with | [s]=>bj (strOf s) | _=>undef)
theorem kH {s:List UInt8}{i:Nat}(h:i < s.length):Ta 0 (s.take (i+1))=if 48≤(at' s i).toNat∧(at' s i).toNat≤57 then Ad .i64 (Ad .i64 (10 * Ta 0 (s.take i)) - (((at' s i).toNat:Int) - 48)) else Ta 0 (s.take i):=by
 rw [Bj h,Py];rfl
def fM (hp:Hp)(top:Nat)(s:List UInt8)(i:Nat):SS:=⟨[(0, .string ⟨⟨s⟩⟩,true),(4, .int .i64 (Ta 0 (s.take i)),true),(5, .int .i64 (i:Int),true)],hp.Ac [],top⟩
theorem bm:Ag Tryz.prog 62 Mj:=by
 refine .EK ah ?_ ?_
 ·rintro args hp h
  match args,h with
  | [.string ⟨⟨s⟩⟩],_=>
   simp only [AH]
   unfold bj
   split <;> rfl
 intro args hp hpre top hcl hsc
 match args,hpre with
 | [.string ⟨⟨s⟩⟩],hs=>
 simp only [AH]
 refine AJ.Af Am ah rfl 48 rfl [.tmp 2, .tmp 3] rfl (show 1≤48 by decide) ?_
 by_cases c:s= []∨20 < s.length
 ·have e:bj s= .tuple ⟨[.int .i64 0, .bool false]⟩:=by unfold bj;rw [if_pos c]
  have c':(decide ((s.length:Int)=0) || decide ((20:Int) < (s.length:Int)))=true:=by
   rcases c with rfl | c
   ·rfl
   ·rw [decide_eq_true (show (20:Int) < (s.length:Int) by omega),Bool.or_true]
  rw [e]
  refine CW.vc Ow [0,2,3,4,5,13,17,29,40] (by kernel_rfl) ?_
  (repeat ((try refine Vc.mk' ?_);simp (maxSteps:=6000000) only [go_sem,Ap,c']))
 have hne:s≠ []:=fun h=>c (.inl h)
 have hl:s.length≤20:=by omega
 have hl1:0 < s.length:=List.length_pos_iff.2 hne
 have hl1':((0:Int) < (s.length:Int))=True:=eq_true (by omega)
 have e:bj s= .tuple ⟨[.int .i64 (EL s), .bool (decide (Lib.itoa (EL s)=s))]⟩:=by unfold bj;rw [if_neg c]
 have c1:((s.length:Int)=0)=False:=eq_false (by omega)
 have c2:((20:Int) < (s.length:Int))=False:=eq_false (by omega)
 have c3:(20 < s.length)=False:=eq_false (by omega)
 rw [e]
 refine CW.vc Ow [0,2,3,4,5,13,17,29,40] (by kernel_rfl) ?_
 (repeat ((try refine Vc.mk' ?_);simp (maxSteps:=6000000) only [go_sem,Ap,c1,c2,decide_false]))
 refine CW.Bc (fM hp top s) (fun i=>i≤s.length) (fun i=>s.length - i) 0 (Nat.zero_le _) ?_ ?_
 ·exact (by refine Al.mk' [] hcl (by simp) (by simp) rfl (AF ?_) ?_ ?_ <;> simp [show Ta 0 [] = 0 from rfl])
 ·intro i hi
  by_cases hlt:i < s.length
  ·have ii:((i:Int) < (s.length:Int))=True:=eq_true (by omega)
   have kk:Ad .i64 ((i:Int)+1)=((i+1:Nat):Int):=Ae hlt (by omega)
   have hc:=Nd hlt
   have hsn:=kH hlt
   have h255:=(at' s i).toNat_lt
   by_cases d1:48≤(at' s i).toNat
   ·have d1':(Int.ofNat (at' s i).toNat < 48)=False:=eq_false (by show ¬((at' s i).toNat:Int) < 48;omega)
    by_cases d2:(at' s i).toNat≤57
    ·have d2':((57:Int) < Int.ofNat (at' s i).toNat)=False:=eq_false (by show ¬(57:Int) < ((at' s i).toNat:Int);omega)
     rw [if_pos ⟨d1,d2⟩] at hsn
     have w8:Ad .u8 (Int.ofNat (at' s i).toNat - 48)=((at' s i).toNat:Int) - 48:=Gh (by simp [IntKind.signed];omega) (by simp [IntKind.signed,IntKind.bits];omega)
     have w9:Ad .i64 (((at' s i).toNat:Int) - 48)=((at' s i).toNat:Int) - 48:=wrap64 (by omega) (by omega)
     refine CW.vc Ow [0,2,3,4,5,13,17,29,40] (by kernel_rfl) ?_
     (repeat ((try refine Vc.mk' ?_);simp (maxSteps:=6000000) only [go_sem,fM,Ap,ii,hc,d1',d2',w8,w9,kk,decide_true,decide_false]))
     refine .mk (i+1) hlt (by omega) ((by refine Al.mk' [] hcl (by simp) (by simp) rfl (AF ?_) ?_ ?_ <;> simp [hsn]))
    ·have d2':((57:Int) < Int.ofNat (at' s i).toNat)=True:=eq_true (by show (57:Int) < ((at' s i).toNat:Int);omega)
     rw [if_neg (fun h=>d2 h.2)] at hsn
     refine CW.vc Ow [0,2,3,4,5,13,17,29,40] (by kernel_rfl) ?_
     (repeat ((try refine Vc.mk' ?_);simp (maxSteps:=6000000) only [go_sem,fM,Ap,ii,hc,d1',d2',kk,decide_true,decide_false]))
     refine .mk (i+1) hlt (by omega) ((by refine Al.mk' [] hcl (by simp) (by simp) rfl (AF ?_) ?_ ?_ <;> simp [hsn]))
   ·have d1':(Int.ofNat (at' s i).toNat < 48)=True:=eq_true (by show ((at' s i).toNat:Int) < 48;omega)
    rw [if_neg (fun h=>d1 h.1)] at hsn
    refine CW.vc Ow [0,2,3,4,5,13,17,29,40] (by kernel_rfl) ?_
    (repeat ((try refine Vc.mk' ?_);simp (maxSteps:=6000000) only [go_sem,fM,Ap,ii,hc,d1',kk,decide_true]))
    refine .mk (i+1) hlt (by omega) ((by refine Al.mk' [] hcl (by simp) (by simp) rfl (AF ?_) ?_ ?_ <;> simp [hsn]))
  ·have hi2:i=s.length:=by omega
   subst hi2
   have hr:=RO s
   have hc:=Nd hl1
   have hhd:s.head? = some (at' s 0):=by
    cases s with
    |nil=>exact absurd rfl hne
    |cons a l=>rfl
   by_cases d:at' s 0=45
   ·have d':(Int.ofNat (at' s 0).toNat=45)=True:=eq_true (by rw [d];rfl)
    have ew:Ta 0 s=EL s:=by unfold EL;rw [hhd,d,if_pos rfl]
    refine CW.vc Ow [0,2,3,4,5,13,17,29,40] (by kernel_rfl) ?_
    (repeat ((try refine Vc.mk' ?_);simp (maxSteps:=6000000) only [go_sem,fM,Ap,Nat.lt_irrefl,List.take_length,ew,hl1',hc,d',rz,FE,hr,Ay,decide_true,decide_false]))
   ·have d':(Int.ofNat (at' s 0).toNat=45)=False:=eq_false fun h=>d (UInt8.toNat.inj (by have:(at' s 0).toNat=45:=Int.ofNat.inj h;rw [this];rfl))
    have ew:Ad .i64 (0 - Ta 0 s)=EL s:=by unfold EL;rw [hhd,if_neg (fun h=>d (Option.some.inj h)),Int.zero_sub]
    refine CW.vc Ow [0,2,3,4,5,13,17,29,40] (by kernel_rfl) ?_
    (repeat ((try refine Vc.mk' ?_);simp (maxSteps:=6000000) only [go_sem,fM,Ap,Nat.lt_irrefl,List.take_length,ew,hl1',hc,d',rz,FE,hr,Ay,decide_false]))
end Go.Proofs.YthlhnangbinhoaaGreatDoor.Dm
set_option linter.unusedVariables false
namespace Go.Proofs.YthlhnangbinhoaaGreatDoor.Dm
open Go.Dm
set_option maxHeartbeats 16000000
set_option maxRecDepth 20000
noncomputable def tR:FuncId→BE:=BV GR4 62 Mj
theorem Z8:Bp Tryz.prog tt.get tR:=Ow.add bm
theorem y5:tR 69=Hn fun n=>GC n 1 24:=rfl
theorem r8:tR 57=Hn Gm:=rfl
theorem y0:tR 59=Hn HK:=rfl
theorem yz:tR 60=Hn HJ:=rfl
theorem fm:tR 56=ED:=rfl
def D9 (o:A0):Bool:=
 if Ca o.Kind= [] then false
 else if Gm o.Kind=true then GC o.Cj 1 4096 && decide (o.Bg=0) && decide (o.DQ=0) && decide (o.CH=0) && decide (o.Be=0) && decide (o.Bytes= [])
 else GC o.Bg 1 24 && decide (o.Cj=0) && decide (HK o.Kind= !decide (o.DQ=0)) && (decide (o.DQ=0) || GC o.DQ 1 24) && (HJ o.Kind || decide (o.CH=0)) && GC o.CH 0 7 && (decide (o.Kind=8) || decide (o.Be=0)) && (decide (o.Kind=9) || decide (o.Bytes= [])) && decide (o.Bytes.length≤512)
theorem mb1 {b1 b2 b3 b4 b5:Bool}(h:(!b1 || !b2 || !(b3 == !b4) || !b4 && !b5)=true):(b1 && b2 && decide (b3= !b4) && (b4 || b5))=false:=by
 revert h;cases b1 <;> cases b2 <;> cases b3 <;> cases b4 <;> cases b5 <;> simp
theorem vJ {b1 b2 b3 b4 b5:Bool}(h:(!b1 || !b2 || !(b3 == !b4) || !b4 && !b5)=false):(b1 && b2 && decide (b3= !b4) && (b4 || b5))=true:=by
 revert h;cases b1 <;> cases b2 <;> cases b3 <;> cases b4 <;> cases b5 <;> simp
theorem mb2{b6 b7 b8 b9:Bool}(h:(!b6 && !b7 || b8 || !b9)=true):((b6 || b7) && (!b8 && b9))=false:=by
 revert h;cases b6 <;> cases b7 <;> cases b8 <;> cases b9 <;> simp
theorem AAy{b6 b7 b8 b9:Bool}(h:(!b6 && !b7 || b8 || !b9)=false):((b6 || b7) && (!b8 && b9))=true:=by
 revert h;cases b6 <;> cases b7 <;> cases b8 <;> cases b9 <;> simp
theorem mb3{a b c d:Bool}(h:(!a && !b || !c && !d)=true):((a || b) && (c || d))=false:=by
 revert h;cases a <;> cases b <;> cases c <;> cases d <;> simp
theorem AEU{a b c d:Bool}(h:(!a && !b || !c && !d)=false):((a || b) && (c || d))=true:=by
 revert h;cases a <;> cases b <;> cases c <;> cases d <;> simp
def F3:BE:= .pure (fun args _=>match args with | [v]=>gH v | _=>False) (fun args _=>match args with | [v]=> .bool (D9 (Yz v)) | _=>undef)
theorem AA7:Ag Tryz.prog 30 F3:=by
 refine .EK aN ?_ ?_
 ·rintro args hp h
  match args,h with
  | [_],⟨x,rfl,_⟩=>rfl
 intro args hp hpre top hcl hsc
 match args,hpre with
 | [_],⟨x,rfl,h⟩=>
 simp only [Ej]
 refine AJ.Af Am aN rfl 113 rfl [.tmp 2] rfl (show 1≤113 by decide) ?_
 by_cases n0:Ca x.Kind= []
 ·have e:D9 x=false:=by unfold D9;rw [if_pos n0]
  rw [e]
  refine CW.vc Z8 [0,1,2,6,9,71,90,108] (by kernel_rfl) ?_
  (repeat ((try refine Vc.mk' ?_);simp (maxSteps:=6000000) only [go_sem,fm,ED,n0,Qr]))
 ·cases ht:Gm x.Kind with
  |true=>
   have e:D9 x=(GC x.Cj 1 4096 && decide (x.Bg=0) && decide (x.DQ=0) && decide (x.CH=0) && decide (x.Be=0) && decide (x.Bytes= [])):=by unfold D9;rw [if_neg n0,if_pos ht]
   rw [e]
   refine CW.vc Z8 [0,1,2,6,9,71,90,108] (by kernel_rfl) ?_
   (repeat ((try refine Vc.mk' ?_);simp (maxSteps:=6000000) only [go_sem,fm,ED,r8,Hn,ht,n0,Ay,decide_false]))
   refine D5 ?_
   simp [GC]
  |false=>
   refine CW.vc Z8 [0,1,2,6,9,71,90,108] (by kernel_rfl) ?_
   (repeat ((try refine Vc.mk' ?_);simp (maxSteps:=6000000) only [go_sem,fm,ED,r8,y0,y5,Hn,ht,n0,Ay,decide_false]))
   refine ⟨fun a=>⟨a,fun b=>⟨a,b⟩⟩, ?_⟩
   (repeat ((try refine Vc.mk' ?_);simp (maxSteps:=6000000) only [go_sem]))
   have hg:GC x.CH 0 7=(!decide (x.CH < 0) && decide (x.CH < 8)):=by
    unfold GC
    congr 1
    ·rw [Bool.eq_iff_iff];simp
    ·rw [Bool.eq_iff_iff];simp;omega
   have e:D9 x=((GC x.Bg 1 24 && decide (x.Cj=0) && decide (HK x.Kind= !decide (x.DQ=0)) && (decide (x.DQ=0) || GC x.DQ 1 24)) && ((HJ x.Kind || decide (x.CH=0)) && (!decide (x.CH < 0) && decide (x.CH < 8))) && ((decide (x.Kind=8) || decide (x.Be=0)) && (decide (x.Kind=9) || decide (x.Bytes= []))) && decide (x.Bytes.length≤512)):=by
    unfold D9
    rw [if_neg n0,if_neg (by rw [ht];simp),hg]
    simp only [Bool.and_assoc]
   rw [e]
   clear e hg
   refine JV.mk (fun c1=> ?_) (fun c1=> ?_)
   ·(repeat ((try refine Vc.mk' ?_);simp (maxSteps:=6000000) only [go_sem]))
    rw [mb1 c1];rfl
   ·(repeat ((try refine Vc.mk' ?_);simp (maxSteps:=6000000) only [go_sem,yz,Hn]))
    refine JV.mk (fun c2=> ?_) (fun c2=> ?_)
    ·(repeat ((try refine Vc.mk' ?_);simp (maxSteps:=6000000) only [go_sem]))
     rw [vJ c1,mb2 c2];rfl
    ·(repeat ((try refine Vc.mk' ?_);simp (maxSteps:=6000000) only [go_sem]))
     refine ⟨fun a=>⟨a,fun b=>⟨a,b⟩⟩, ?_⟩
     (repeat ((try refine Vc.mk' ?_);simp (maxSteps:=6000000) only [go_sem]))
     refine JV.mk (fun c3=> ?_) (fun c3=> ?_)
     ·(repeat ((try refine Vc.mk' ?_);simp (maxSteps:=6000000) only [go_sem]))
      rw [Ay] at c3
      rw [vJ c1,AAy c2,mb3 c3];rfl
     ·(repeat ((try refine Vc.mk' ?_);simp (maxSteps:=6000000) only [go_sem,Ap]))
      rw [Ay] at c3
      rw [vJ c1,AAy c2,AEU c3]
      refine D5 ?_
      simp
      omega
end Go.Proofs.YthlhnangbinhoaaGreatDoor.Dm
