/- The document's words and numbers, walked. -/
import Derived.Test.YthlhnangbinhoaaGreatDoorSRB
set_option linter.unusedVariables false
namespace Go.Proofs.YthlhnangbinhoaaGreatDoor.Dm
open Go.Dm
set_option maxHeartbeats 16000000
set_option maxRecDepth 20000
noncomputable def GR2:FuncId→Bb:=Bw (Bw GR1 61 EY) 63 Kc
theorem Mh:CQ Tryz.prog tt.get GR2:=(L8.add yF).add xE
theorem NW {c:UInt8}:∀ {x:List UInt8} {o:List (List UInt8)} {p:List UInt8},Bm x=o ++ [p]→Bm (x ++ [c])=if c=32 then o ++ [p, []] else o ++ [p ++ [c]]
 | [],o,p,h=>by
  have h: [[]] = o ++ [p]:=h
  cases o with
  |nil=>
   simp at h;subst h
   by_cases hc:c=32 <;> simp [Bm,hc]
  |cons a o=>simp at h
 |a :: r,o,p,h=>by
  rw [List.cons_append]
  by_cases ha:a=32
  ·rw [Bm,if_pos ha] at h ⊢
   cases o with
   |nil=>simp at h;exact absurd h.2 (Md r)
   |cons b o=>
    rw [List.cons_append,List.cons.injEq] at h
    rw [NW h.2,←h.1]
    by_cases hc:c=32
    ·rw [if_pos hc,if_pos hc];rfl
    ·rw [if_neg hc,if_neg hc];rfl
  ·obtain ⟨hd,t,e⟩:=List.exists_cons_of_ne_nil (Md r)
   have h1:Bm (a :: r)=(a :: hd) :: t:=by rw [Bm,if_neg ha,e]
   rw [h1] at h
   rw [Bm,if_neg ha]
   cases o with
   |nil=>
    simp at h
    obtain ⟨rfl,rfl⟩:=h
    rw [NW (x:=r) (o:= []) (p:=hd) e]
    by_cases hc:c=32 <;> simp [hc]
   |cons b o=>
    rw [List.cons_append,List.cons.injEq] at h
    obtain ⟨rfl,rfl⟩:=h
    rw [NW (x:=r) (o:=hd :: o) (p:=p) e]
    by_cases hc:c=32 <;> simp [hc]
def EJ (s:List UInt8):Nat→List (List UInt8)×Nat
 |0=>([],0)
 |i+1=>if i=s.length∨at' s i=32 then ((EJ s i).1 ++ [(s.drop (EJ s i).2).take (i - (EJ s i).2)],i+1) else EJ s i
theorem Tv {s:List UInt8}:∀i,i≤s.length→(EJ s i).2≤i∧(EJ s i).1.length≤i∧Bm (s.take i)=(EJ s i).1 ++ [(s.drop (EJ s i).2).take (i - (EJ s i).2)]
 |0,_=>by simp [EJ,Bm]
 |i+1,h=>by
  obtain ⟨h1,h2,h3⟩:=Tv (s:=s) i (by omega)
  have ht:s.take (i+1)=s.take i ++ [at' s i]:=by rw [List.take_succ_eq_append_getElem (by omega),CO _ _ (by omega)]
  have hs:=NW (c:=at' s i) h3
  rw [ht,hs]
  by_cases c:at' s i=32
  ·have e:EJ s (i+1)=((EJ s i).1 ++ [(s.drop (EJ s i).2).take (i - (EJ s i).2)],i+1):=by rw [EJ,if_pos (.inr c)]
   rw [if_pos c,e]
   refine ⟨Nat.le_refl _,by show ((EJ s i).1 ++ [(s.drop (EJ s i).2).take (i - (EJ s i).2)]).length≤i+1;rw [List.length_append];simp only [List.length_cons,List.length_nil];omega,by simp⟩
  ·have e:EJ s (i+1)=EJ s i:=by rw [EJ,if_neg (by intro h';rcases h' with h' | h';omega;exact c h')]
   rw [if_neg c,e]
   refine ⟨by omega,by omega, ?_⟩
   have hx:i - (EJ s i).2 < (s.drop (EJ s i).2).length:=by rw [List.length_drop];omega
   rw [show i+1 - (EJ s i).2=(i - (EJ s i).2)+1 from by omega,List.take_succ_eq_append_getElem hx,List.getElem_drop]
   have:s[(EJ s i).2+(i - (EJ s i).2)]'(by omega)=at' s i:=by rw [CO _ _ (by omega)];congr 1;omega
   rw [this]
theorem oh (s:List UInt8):(EJ s (s.length+1)).1=Bm s:=by
 obtain ⟨_,_,h3⟩:=Tv (s:=s) s.length (Nat.le_refl _)
 rw [List.take_length] at h3
 rw [EJ,if_pos (.inl rfl)]
 exact h3.symm
def LX:Bb:= .det (fun args _ _=>match args with | [.string ⟨⟨s⟩⟩]=>s.length≤16000000 | _=>False) (fun args _ top=>match args with | [s]=>(AA top (Bm (strOf s)), [(top,AD AE (Bm (strOf s)))],top+1) | _=>(undef, [],top))
def jY (hp:Hp)(top:Nat)(s:List UInt8)(i:Nat):SS:=⟨[(0, .string ⟨⟨s⟩⟩,true),(3,AA top (EJ s i).1,true),(4, .int .i64 ((EJ s i).2:Int),true),(5, .int .i64 (i:Int),true)],hp.Av [(top,AD AE (EJ s i).1)],top+1⟩
theorem cp:A0 Tryz.prog 51 LX:=by
 refine .Hq UP ?_
 intro args hp top hpre hcl hsc
 match args,hpre with
 | [.string ⟨⟨s⟩⟩],hs=>
 simp only [AH]
 refine AR.A5 BA UP rfl 32 rfl [.tmp 2] rfl (show 1≤32 by decide) ?_
 refine CW.vc Mh [0,2,3,4,5,9,21] (by kernel_rfl) ?_
 (repeat ((try refine Vc.mk' ?_);simp (maxSteps:=6000000) only [go_sem]))
 refine CW.DC (jY hp top s) (fun i=>i≤s.length+1) (fun i=>s.length+1 - i) 0 (Nat.zero_le _) ?_ ?_
 ·exact (by refine BR.mk' [top] hcl (by simp) (by simp) rfl (AU ?_) ?_ ?_ <;> simp [EJ,Ex,GL])
 ·intro i hi
  by_cases c1:i≤s.length
  ·have c1':(i:Int)≤(s.length:Int):=by omega
   have c0:¬s.length < i:=by omega
   obtain ⟨v1,v2,_⟩:=Tv (s:=s) i c1
   have kk:Ap .i64 ((i:Int)+1)=((i+1:Nat):Int):=by rw [wrap64 (by omega) (by omega)];omega
   by_cases c2:i=s.length
   ·have c2':((i:Int)=(s.length:Int))=True:=eq_true (by omega)
    have e:EJ s (i+1)=((EJ s i).1 ++ [(s.drop (EJ s i).2).take (i - (EJ s i).2)],i+1):=by rw [EJ,if_pos (.inl c2)]
    have n1:((EJ s i).2:Int)≤(i:Int):=by omega
    have sl:=fun (h':Hp)=>RS (h':=h') (s:=s) v1 c1
    have hap:∀ {h':Hp} {j q t:Nat},h' j=AD AE (EJ s i).1→h' q=some (.cells true 1 [.string ⟨⟨(s.drop (EJ s i).2).take (i - (EJ s i).2)⟩⟩])→AM tt.get h' t [67,67] (AA j (EJ s i).1) (.slice (some ⟨q,0,none⟩) 1 1)=some (AA t ((EJ s i).1 ++ [(s.drop (EJ s i).2).take (i - (EJ s i).2)]),CC j (EJ s i).1 t (AD AE ((EJ s i).1 ++ [(s.drop (EJ s i).2).take (i - (EJ s i).2)])),t+1):=fun {h'} {j} {q} {t} a1 a2=>by
     have e3:cellsOf (h' q)=AE.enc ((s.drop (EJ s i).2).take (i - (EJ s i).2)):=by rw [a2];rfl
     have:=JZ (hp:=h') (b:=j) (top:=t) (k:=q) a1 (by rw [e3];exact a2) (by rw [e3,AE.h]) (CL (by omega) (by decide))
     rwa [e3,AE.h] at this
    refine CW.vc Mh [0,2,3,4,5,9,21] (by kernel_rfl) ?_
    (repeat ((try refine Vc.mk' ?_);simp (maxSteps:=6000000) only [go_sem,sl,hap,jY,A8,c0,decide_false,Bool.not_false,c2',kk]))
    refine .mk (i+1) (by omega) (by omega) ((by refine BR.mk' [top+2] hcl (by simp) (by simp) rfl (AU ?_) ?_ ?_ <;> simp [e]))
   ·have c2':¬((i:Int)=(s.length:Int)):=by omega
    have hlt:i < s.length:=by omega
    have hat:(s[i]?.getD 0)=at' s i:=rfl
    have sl:=fun (h':Hp)=>RS (h':=h') (s:=s) v1 c1
    have hap:∀ {h':Hp} {j q t:Nat},h' j=AD AE (EJ s i).1→h' q=some (.cells true 1 [.string ⟨⟨(s.drop (EJ s i).2).take (i - (EJ s i).2)⟩⟩])→AM tt.get h' t [67,67] (AA j (EJ s i).1) (.slice (some ⟨q,0,none⟩) 1 1)=some (AA t ((EJ s i).1 ++ [(s.drop (EJ s i).2).take (i - (EJ s i).2)]),CC j (EJ s i).1 t (AD AE ((EJ s i).1 ++ [(s.drop (EJ s i).2).take (i - (EJ s i).2)])),t+1):=fun {h'} {j} {q} {t} a1 a2=>by
     have e3:cellsOf (h' q)=AE.enc ((s.drop (EJ s i).2).take (i - (EJ s i).2)):=by rw [a2];rfl
     have:=JZ (hp:=h') (b:=j) (top:=t) (k:=q) a1 (by rw [e3];exact a2) (by rw [e3,AE.h]) (CL (by omega) (by decide))
     rwa [e3,AE.h] at this
    by_cases c3:at' s i=32
    ·have hc:(Int.ofNat (s[i]?.getD 0).toNat=32)=True:=eq_true (by rw [hat,c3];rfl)
     have e:EJ s (i+1)=((EJ s i).1 ++ [(s.drop (EJ s i).2).take (i - (EJ s i).2)],i+1):=by rw [EJ,if_pos (.inr c3)]
     have n1:((EJ s i).2:Int)≤(i:Int):=by omega
     refine CW.vc Mh [0,2,3,4,5,9,21] (by kernel_rfl) ?_
     (repeat ((try refine Vc.mk' ?_);simp (maxSteps:=6000000) only [go_sem,sl,hap,jY,A8,c0,decide_false,Bool.not_false,c2',kk,KO,hlt,hc,decide_true]))
     refine .mk (i+1) (by omega) (by omega) ((by refine BR.mk' [top+2] hcl (by simp) (by simp) rfl (AU ?_) ?_ ?_ <;> simp [e]))
    ·have hc:(Int.ofNat (s[i]?.getD 0).toNat=32)=False:=eq_false (by
      rw [hat];intro h
      apply c3
      apply UInt8.toNat.inj
      have:(at' s i).toNat=32:=Int.ofNat.inj h
      rw [this];rfl)
     have e:EJ s (i+1)=EJ s i:=by rw [EJ,if_neg (by rintro (h' | h');exact c2 h';exact c3 h')]
     refine CW.vc Mh [0,2,3,4,5,9,21] (by kernel_rfl) ?_
     (repeat ((try refine Vc.mk' ?_);simp (maxSteps:=6000000) only [go_sem,jY,A8,c0,decide_false,Bool.not_false,c2',kk,KO,hlt,hc,decide_false]))
     refine .mk (i+1) (by omega) (by omega) ((by refine BR.mk' [top] hcl (by simp) (by simp) rfl (AU ?_) ?_ ?_ <;> simp [e]))
  ·have hi2:i=s.length+1:=by omega
   subst hi2
   have c1':¬((s.length+1:Nat):Int)≤(s.length:Int):=by omega
   refine CW.vc Mh [0,2,3,4,5,9,21] (by kernel_rfl) ?_
   (repeat ((try refine Vc.mk' ?_);simp (maxSteps:=6000000) only [go_sem,jY,A8]))
   (refine ⟨[top],by simp,by simp,by simp, ?_, ?_, ?_⟩ <;> simp [oh])
def Ly (k:Nat):Bb:= .pure (fun args _=>match args with | [.int .i64 n]=>0≤n∧n≤9223372036854775807∧n < (10 ^ k:Nat) | _=>False) (fun args _=>match args with | [n]=> .string ⟨⟨Lib.itoa (intOf n)⟩⟩ | _=>undef)
theorem XN {h':Hp}{b:Nat}{n:Int}:CU tt.get (h'.set b (some (.cells true 1 [.int .u8 n]))) 69 9 (.slice (some ⟨b,0,none⟩) 1 1)=(.string ⟨⟨[UInt8.ofNat n.toNat]⟩⟩,True):=Yf DT JT HD (AG ..)
theorem za {d:Int}(h0:0≤d)(h1:d < 10):Ap .u8 (Ap .i64 (48+d))=48+d:=by
 rw [wrap64 (by omega) (by omega)]
 exact Gg (by simp [IntKind.signed];omega) (by simp [IntKind.signed,IntKind.bits];omega)
theorem gA {n:Int}(h0:0≤n)(h1:n < 10):Lib.itoa n= [UInt8.ofNat (48+n).toNat]:=by
 obtain ⟨u,rfl⟩:=Int.eq_ofNat_of_zero_le h0
 rw [Lib.itoa_nonneg,Fp (by omega)]
 congr 2
theorem tH {n:Int}(h1:10≤n):Lib.itoa n=Lib.itoa (n / 10) ++ [UInt8.ofNat (48+n % 10).toNat]:=by
 obtain ⟨u,rfl⟩:=Int.eq_ofNat_of_zero_le (show 0≤n by omega)
 rw [show (u:Int) / 10=((u / 10:Nat):Int) from rfl,Lib.itoa_nonneg,Lib.itoa_nonneg,K4 (by omega)]
 congr 3
theorem qC:A0 Tryz.prog 58 (Ly 0):=by
 refine .Fm JW ?_ ?_
 ·rintro args hp h
  match args,h with
  | [.int .i64 n],_=>rfl
 intro args hp hpre top hcl hsc
 match args,hpre with
 | [.int .i64 n],⟨n0,n1,nk⟩=>
 simp only [intOf_int]
 have nk:n < 1:=nk
 have c0:(n= -9223372036854775808)=False:=eq_false (by omega)
 have c1:(n < 0)=False:=eq_false (by omega)
 have c2:(n < 10)=True:=eq_true (by omega)
 have w:=za n0 (by omega)
 rw [gA n0 (by omega)]
 refine AR.A5 BA JW rfl 28 rfl [.tmp 2] rfl (show 1≤28 by decide) ?_
 refine CW.vc Mh [0,2,4,6,12,1000007] (by kernel_rfl) ?_
 (repeat ((first | refine Vc.mk' ?_ | refine CW.Ei Mh 7 [0,2,4,6,12,1000007] [(2,7)] (by kernel_rfl) (by kernel_rfl) ?_ | skip);simp (maxSteps:=6000000) only [go_sem,c0,c1,c2,w,XN,decide_true,decide_false]))
theorem sU {j:Nat}(ih:A0 Tryz.prog 58 (Ly j)):A0 Tryz.prog 58 (Ly (j+1)):=by
 have env:CQ Tryz.prog tt.get (Bw GR2 58 (Ly j)):=Mh.add ih
 have hG:Bw GR2 58 (Ly j) 58= .pure (fun args _=>match args with | [.int .i64 n]=>0≤n∧n≤9223372036854775807∧n < (10 ^ j:Nat) | _=>False) (fun args _=>match args with | [n]=> .string ⟨⟨Lib.itoa (intOf n)⟩⟩ | _=>undef):=rfl
 refine .Fm JW ?_ ?_
 ·rintro args hp h
  match args,h with
  | [.int .i64 n],_=>rfl
 intro args hp hpre top hcl hsc
 match args,hpre with
 | [.int .i64 n],⟨n0,n1,nk⟩=>
 simp only [intOf_int]
 have c0:(n= -9223372036854775808)=False:=eq_false (by omega)
 have c1:(n < 0)=False:=eq_false (by omega)
 refine AR.A5 BA JW rfl 28 rfl [.tmp 2] rfl (show 1≤28 by decide) ?_
 by_cases c:n < 10
 ·have c2:=eq_true c
  have w:=za n0 c
  rw [gA n0 c]
  refine CW.vc env [0,2,4,6,12,1000007] (by kernel_rfl) ?_
  (repeat ((first | refine Vc.mk' ?_ | refine CW.Ei env 7 [0,2,4,6,12,1000007] [(2,7)] (by kernel_rfl) (by kernel_rfl) ?_ | skip);simp (maxSteps:=6000000) only [go_sem,c0,c1,c2,w,XN,decide_true,decide_false]))
 ·have c2:=eq_false c
  have hq:IntKind.i64.wrap (n.tdiv 10)=n / 10:=by
   rw [Int.tdiv_eq_ediv_of_nonneg n0,←Eo,wrap64 (by omega) (by omega)]
  have hr:n.tmod 10=n % 10:=Int.tmod_eq_emod_of_nonneg n0
  have w:=za (d:=n % 10) (by omega) (by omega)
  have g0:(0≤n / 10)=True:=eq_true (by omega)
  have g1:(n / 10≤9223372036854775807)=True:=eq_true (by omega)
  have g2:(n / 10 < (10 ^ j:Nat))=True:=eq_true (by rw [Nat.pow_succ] at nk;omega)
  have hl:=Lib.itoa_length_le (n / 10) (by omega) (by omega)
  have sl:((Lib.itoa (n / 10)).length+1≤4611686018427387904)=True:=eq_true (by omega)
  have sl2:((Lib.itoa (n / 10)).length≤4611686018427387903)=True:=eq_true (by omega)
  rw [tH (by omega)]
  refine CW.vc env [0,2,4,6,12,1000007] (by kernel_rfl) ?_
  (repeat ((first | refine Vc.mk' ?_ | refine CW.Ei env 7 [0,2,4,6,12,1000007] [(2,7)] (by kernel_rfl) (by kernel_rfl) ?_ | skip);simp (maxSteps:=6000000) only [go_sem,c0,c1,c2,hG,hq,hr,g0,g1,g2,w,XN,sl,decide_false]))
theorem tn:∀k,A0 Tryz.prog 58 (Ly k)
 |0=>qC
 |k+1=>sU (tn k)
noncomputable def GR3:FuncId→Bb:=Bw (Bw GR2 51 LX) 58 (Ly 19)
theorem Na:CQ Tryz.prog tt.get GR3:=(Mh.add cp).add (tn 19)
theorem s7:GR3 58=Ly 19:=rfl
def FG:Bb:= .pure (fun args _=>match args with | [.int .i64 n]=>Fh n | _=>False) (fun args _=>match args with | [n]=> .string ⟨⟨Lib.itoa (intOf n)⟩⟩ | _=>undef)
theorem ACX:A0 Tryz.prog 58 FG:=by
 refine .Fm JW ?_ ?_
 ·rintro args hp h
  match args,h with
  | [.int .i64 n],_=>rfl
 intro args hp hpre top hcl hsc
 match args,hpre with
 | [.int .i64 n],⟨n0,n1⟩=>
 simp only [intOf_int]
 refine AR.A5 BA JW rfl 28 rfl [.tmp 2] rfl (show 1≤28 by decide) ?_
 by_cases c0:n= -9223372036854775808
 ·subst c0
  have e:Lib.itoa (-9223372036854775808)= [45,57,50,50,51,51,55,50,48,51,54,56,53,52,55,55,53,56,48,56]:=by decide +kernel
  rw [e]
  refine CW.vc Na [0,2,4,6,12,1000007] (by kernel_rfl) ?_
  (repeat ((first | refine Vc.mk' ?_ | refine CW.Ei Na 7 [0,2,4,6,12,1000007] [(2,7)] (by kernel_rfl) (by kernel_rfl) ?_ | skip);simp (maxSteps:=6000000) only [go_sem]))
 ·have c0':=eq_false c0
  by_cases c1:n < 0
  ·have c1':=eq_true c1
   obtain ⟨m,rfl,hm⟩:∃m:Int,n= -m∧0 < m:=⟨-n,by omega,by omega⟩
   have w:Ap .i64 (0 - -m)=m:=by rw [show 0 - -m=m by omega,wrap64 (by omega) (by omega)]
   have g0:(0≤m)=True:=eq_true (by omega)
   have g1:(m≤9223372036854775807)=True:=eq_true (by omega)
   have g2:(m < ((10 ^ 19:Nat):Int))=True:=eq_true (by omega)
   have hl:=Lib.itoa_length_le m (by omega) (by omega)
   have sl:(1+(Lib.itoa m).length≤4611686018427387904)=True:=eq_true (by omega)
   have sl2:((Lib.itoa m).length+1≤4611686018427387904)=True:=eq_true (by omega)
   have e:Lib.itoa (-m)=45 :: Lib.itoa m:=by
    obtain ⟨u,rfl⟩:=Int.eq_ofNat_of_zero_le (show 0≤m by omega)
    cases u with
    |zero=>omega
    |succ u=>
     have e0:Lib.itoa (-((u+1:Nat):Int))=45 :: Lib.decDigits (u+1):=by unfold Lib.itoa;rw [if_pos (by omega)];congr 2
     rw [e0,Lib.itoa_nonneg]
   rw [e]
   refine CW.vc Na [0,2,4,6,12,1000007] (by kernel_rfl) ?_
   (repeat ((first | refine Vc.mk' ?_ | refine CW.Ei Na 7 [0,2,4,6,12,1000007] [(2,7)] (by kernel_rfl) (by kernel_rfl) ?_ | skip);simp (maxSteps:=6000000) only [go_sem,c0',c1',s7,Ly,w,g0,g1,g2,sl,decide_true,decide_false]))
  ·have c1':=eq_false c1
   by_cases c:n < 10
   ·have c2:=eq_true c
    have w:=za (d:=n) (by omega) c
    rw [gA (by omega) c]
    refine CW.vc Na [0,2,4,6,12,1000007] (by kernel_rfl) ?_
    (repeat ((first | refine Vc.mk' ?_ | refine CW.Ei Na 7 [0,2,4,6,12,1000007] [(2,7)] (by kernel_rfl) (by kernel_rfl) ?_ | skip);simp (maxSteps:=6000000) only [go_sem,c0',c1',c2,w,XN,decide_true,decide_false]))
   ·have c2:=eq_false c
    have hq:IntKind.i64.wrap (n.tdiv 10)=n / 10:=by
     rw [Int.tdiv_eq_ediv_of_nonneg (by omega),←Eo,wrap64 (by omega) (by omega)]
    have hr:n.tmod 10=n % 10:=Int.tmod_eq_emod_of_nonneg (by omega)
    have w:=za (d:=n % 10) (by omega) (by omega)
    have g0:(0≤n / 10)=True:=eq_true (by omega)
    have g1:(n / 10≤9223372036854775807)=True:=eq_true (by omega)
    have g2:(n / 10 < ((10 ^ 19:Nat):Int))=True:=eq_true (by omega)
    have hl:=Lib.itoa_length_le (n / 10) (by omega) (by omega)
    have sl:((Lib.itoa (n / 10)).length+1≤4611686018427387904)=True:=eq_true (by omega)
    have sl2:((Lib.itoa (n / 10)).length≤4611686018427387903)=True:=eq_true (by omega)
    rw [tH (by omega)]
    refine CW.vc Na [0,2,4,6,12,1000007] (by kernel_rfl) ?_
    (repeat ((first | refine Vc.mk' ?_ | refine CW.Ei Na 7 [0,2,4,6,12,1000007] [(2,7)] (by kernel_rfl) (by kernel_rfl) ?_ | skip);simp (maxSteps:=6000000) only [go_sem,c0',c1',c2,s7,Ly,hq,hr,g0,g1,g2,w,XN,sl,decide_false]))
end Go.Proofs.YthlhnangbinhoaaGreatDoor.Dm
