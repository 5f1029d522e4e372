import Derived.Test.YthpibnpeaidabaaGreatDoorDmH
import Derived.Lib.AppendZerosOnto
import Derived.Lib.Overlaps
import Derived.Laws.Externs
import Derived.WalkKit
import Derived.ArgAppend
import Derived.Shelf.RegionOpenPlain
set_option linter.unusedSimpArgs false
set_option linter.unusedVariables false
namespace Go.Dm
structure At (B:Nat) (o:Obj) (w w':World):Prop where
 here:w'.heap[B]? = some o
 size:w'.heap.size=w.heap.size
 oth:∀k,k≠B→w'.heap[k]? = w.heap[k]?
 os:w'.os=w.os
 tape:w'.tape=w.tape
 output:w'.output=w.output
theorem ug {P:Program}{ops:Array Oper}{o:Oper}{a:Act}{w:World}{K:Act→World→Prop}{Q:Exit→Act→World→Prop}{E:Prop}
  (hg:o.guard=none) (d x:Operand) (dT sT:TypeId) (hop:o.op=Op.call {callee:=Callee.builtin Builtin.copy,args:= #[d,x],argTypes:= #[dT,sT]})
  (v u:Value) (hd:a.eval d=v) (hx:a.eval x=u) {v':Value} {Φ:World→Prop} (hr:∃w',(Builtin.copy_ #[dT,sT] o.type #[v,u]).run P w= .ok v' w'∧Φ w') (hK:∀w',Φ w'→K (a.put o.dst v') w') :
  if Region.wanted o (yielded ops a.tmps)=true then Oper.wp P o a w K Q else E:=by
 obtain ⟨w',hr,hΦ⟩:=hr
 have hw:Region.wanted o (yielded ops a.tmps)=true:=by simp [Region.wanted,hg]
 rw [if_pos hw]
 unfold Oper.wp
 simp [execOp,hop,resolve,invoke,builtin,hd,hx,hr,Result.andThen]
 exact hK _ hΦ
def tY (w:World)(n k:Nat)(row:List Value)(t:TypeId)(e:Ending)(w':World):Prop:=
 ∃cap extra,n≤cap∧extra.length=(cap - n) * k∧e= .returned (.slice (some ⟨w.heap.size,0,none⟩) n cap)∧w'.heap[w.heap.size]? = some (.cells ⟨row ++ extra⟩ t (0,0))∧
  w'.heap.size=w.heap.size+1∧(∀k,k≠w.heap.size→w'.heap[k]? = w.heap[k]?)∧w'.os=w.os∧w'.tape=w.tape∧w'.output=w.output
theorem ri {A X S Z1 Z2:List Value}{a x s:Nat}(hA:A.length=a)(hX:X.length=x)(hS:S.length=s)(hZ:Z1.length=x+s):Ag (Ag (A ++ Z1 ++ Z2) a X) (a+x) S=A ++ X ++ S ++ Z2:=by
 obtain ⟨P,Q,rfl,hP,hQ⟩:∃P Q,Z1=P ++ Q∧P.length=x∧Q.length=s:=⟨Z1.take x,Z1.drop x,(List.take_append_drop ..).symm,by rw [List.length_take];omega,by rw [List.length_drop];omega⟩
 have d2:∀(B C D:List Value),(B ++ (C ++ D)).drop (B.length+C.length)=D:=fun B C D=>by rw [←List.drop_drop,List.drop_left' rfl,List.drop_left' rfl]
 have e1:Ag (A ++ (P ++ Q) ++ Z2) a X=(A ++ X) ++ (Q ++ Z2):=by
  unfold Ag
  simp only [List.append_assoc]
  rw [List.take_left' hA,show a+X.length=A.length+P.length by omega,d2]
 rw [e1]
 unfold Ag
 rw [List.take_left' (by rw [List.length_append];omega),show a+x+S.length=(A ++ X).length+Q.length by rw [List.length_append];omega,d2]
end Go.Dm
namespace Go.Dm
def wo (P:Program)(f:FuncId)(k:Nat):Prop:=
 ∀(B off n c i Vb vo vc:Nat) (cc cv:Array Value) (ty tyv:TypeId) (fz fzv:Nat×Nat) (w:World),i < n→n+1≤c→n+1≤9223372036854775807→Vb≠B→
  w.heap[B]? = some (.cells cc ty fz)→fz.2≤fz.1→off+c * k≤cc.size→w.heap[Vb]? = some (.cells cv tyv fzv)→fzv.2≤fzv.1→vo+1 * k≤cv.size→
  Aq ((cc.toList.drop (off+i * k)).take ((n - i) * k))=true→Aq ((cv.toList.drop vo).take (1 * k))=true→
  Calls P f #[.slice (some ⟨B,off,none⟩) n c, .int .i64 i, .slice (some ⟨Vb,vo,none⟩) 1 vc] w fun e w'=>
   e= .returned (.slice (some ⟨B,off,none⟩) (n+1) c)∧
   At B (.cells ⟨Ag (Ag cc.toList (off+(i+1) * k) ((cc.toList.drop (off+i * k)).take ((n - i) * k))) (off+i * k) ((cv.toList.drop vo).take (1 * k))⟩ ty fz) w w'
def ze (P:Program)(f:FuncId)(k bytes:Nat)(t:TypeId):Prop:=
 ∀(B off n c i Vb vo vc:Nat) (cc cv:Array Value) (ty tyv:TypeId) (fz fzv:Nat×Nat) (w:World),i < n→n≤c→c < n+1→B6 (n+1) bytes=true→Vb≠B→
  w.heap[B]? = some (.cells cc ty fz)→off+c * k≤cc.size→w.heap[Vb]? = some (.cells cv tyv fzv)→vo+1 * k≤cv.size→
  Aq ((cc.toList.drop (off+i * k)).take ((n - i) * k))=true→Aq ((cv.toList.drop vo).take (1 * k))=true→
  Calls P f #[.slice (some ⟨B,off,none⟩) n c, .int .i64 i, .slice (some ⟨Vb,vo,none⟩) 1 vc] w fun e w'=>
   tY w (n+1) k ((cc.toList.drop off).take (i * k) ++ (cv.toList.drop vo).take (1 * k) ++ (cc.toList.drop (off+i * k)).take ((n - i) * k)) t e w'
def rl (P:Program)(f:FuncId)(k:Nat):Prop:=
 ∀(B off n c i j:Nat) (cc:Array Value) (ty:TypeId) (fz:Nat×Nat) (w:World),i < j→j≤n→n≤c→n≤9223372036854775807→
  w.heap[B]? = some (.cells cc ty fz)→fz.2≤fz.1→off+c * k≤cc.size→Aq ((cc.toList.drop (off+j * k)).take ((n - j) * k))=true→
  Calls P f #[.slice (some ⟨B,off,none⟩) n c, .int .i64 i, .int .i64 j] w fun e w'=>
   e= .returned (.slice (some ⟨B,off,none⟩) (n - (j - i)) c)∧
   ∃Z:List Value,Z.length=(j - i) * k∧At B (.cells ⟨Ag (Ag cc.toList (off+i * k) ((cc.toList.drop (off+j * k)).take ((n - j) * k))) (off+(n - (j - i)) * k) Z⟩ ty fz) w w'
def gT {α:Type}(l:List α)(i:Nat)(a:α):List α:=l.take i ++ a :: l.drop i
theorem HR.heap {φ:Ren}{own:Nat→Prop}{hp:Hp}{w w':World}(h:HR φ own hp w)(e:w'.heap=w.heap):HR φ own hp w':=
 ⟨fun i o hi=>by rw [e];exact h.obj i o hi,h.sep,h.DC,fun i L hi=>by rw [e];exact h.val i L hi,fun b hb=>h.fresh b (by rwa [e] at hb)⟩
theorem ai {c S Z:List Value}{off a s:Nat}(hS:S.length=s)(hl:off+(a+s)+Z.length≤c.length) :
  ((Ag (Ag c (off+a) S) (off+(a+s)) Z).drop off).take (a+s)=(c.drop off).take a ++ S:=by
 apply List.ext_getElem?
 intro q
 unfold Ag
 simp only [List.getElem?_take,List.getElem?_drop,List.getElem?_append,List.length_append,List.length_take,List.length_drop,hS]
 repeat' split
 all_goals first
  |omega
  |rfl
  | (congr 1;omega)
  | (rw [List.getElem?_eq_none (by omega)];done)
  | (symm;rw [List.getElem?_eq_none (by omega)];done)
def GF {α:Type}(l:List α)(i j:Nat):List α:=l.take i ++ l.drop j
theorem WO {α:Type}{l:List α}{i j:Nat}(h:i≤j)(hj:j≤l.length):(GF l i j).length=l.length - (j - i):=by
 unfold GF;simp;omega
theorem VU {P:Program}{f:FuncId}{α:Type}{E:Bk α}(hE:E.size < BB)(hD:rl P f E.size)
  {hp:Hp} {top b i j:Nat} {l:List α} (hb:hp b=some (.cells true E.size (E.flat l))) (hij:i < j) (hj:j≤l.length) (hn63:l.length≤9223372036854775807) :
  AK P f [.slice (some ⟨b,0,none⟩) l.length l.length, .int .i64 i, .int .i64 j] hp top fun v h1 t1=>
   v= .slice (some ⟨b,0,none⟩) (GF l i j).length (GF l i j).length∧h1=hp.Al [(b,some (.cells true E.size (E.flat (GF l i j))))]∧t1=top:=by
 intro φ own w args' hv H htop
 cases hv with
 |cons _ s' _ r1 hs hv=>
 cases hv with
 |cons _ k' _ r2 hk hv=>
 cases hv with
 |cons _ x' _ r3 hxv hv=>
 cases hv
 cases hk
 cases hxv
 cases hs with
 |slice _ _ _ _ c' L hL _ hcc hlim=>
 obtain ⟨L',hL',hok⟩:=H.obj _ _ hb
 rw [hL] at hL';cases hL'
 obtain ⟨he0,cc,ty,fz,hg,hsz,hlim',hvs,hfz⟩:=hok
 have he:E.size=L.BO:=by rw [←he0,Eg hE]
 rw [Bk.Bb] at hvs hlim'
 have hlim2:L.off+0+c' * E.size≤cc.size:=by rw [hsz,he];exact hlim
 have hA:Vs φ (E.flat (l.take i)) ((cc.toList.drop (L.off+0)).take (i * E.size)):=by
  have hi:i * E.size≤l.length * E.size:=Nat.mul_le_mul_right _ (by omega)
  have:=hvs.take (i * E.size)
  rw [Bk.Gu,List.take_take,Nat.min_eq_left hi] at this
  exact this
 have hD2:Vs φ (E.flat (l.drop j)) ((cc.toList.drop (L.off+0+j * E.size)).take ((l.length - j) * E.size)):=by
  have e:(l.length - j) * E.size=l.length * E.size - j * E.size:=Nat.sub_mul ..
  have:=hvs.drop (j * E.size)
  rw [Bk.LB,List.drop_take,List.drop_drop,←e] at this
  exact this
 have o1:=FQ hD2
 rw [Bk.GO] at o1
 have hDl:((cc.toList.drop (L.off+0+j * E.size)).take ((l.length - j) * E.size)).length=(l.length - j) * E.size:=by rw [hD2.length,Bk.Bb,List.length_drop]
 have hcl:=WO (l:=l) (show i≤j by omega) hj
 have hV:Vs φ (E.flat (GF l i j)) ((cc.toList.drop (L.off+0)).take (i * E.size) ++ (cc.toList.drop (L.off+0+j * E.size)).take ((l.length - j) * E.size)):=by
  unfold GF;rw [Bk.Ev];exact hA.append hD2
 have hfl:(E.flat (GF l i j)).length=i * E.size+(l.length - j) * E.size:=by
  rw [Bk.Bb,hcl,←Nat.add_mul];congr 1;omega
 have hnn:l.length - (j - i)=i+(l.length - j):=by omega
 refine Calls.mono (hD L.BR (L.off+0) l.length c' i j cc ty fz w hij hj hcc hn63 hg (hfz.1 rfl) hlim2 o1) ?_
 rintro e w' ⟨rfl,Z,hZ,hw⟩
 have hsum:i * E.size+(l.length - j) * E.size+(j - i) * E.size=l.length * E.size:=by
  rw [←Nat.add_mul,←Nat.add_mul];congr 1;omega
 have hcl2:cc.toList.length=L.Dp:=by simpa using hsz
 have hl3:L.off+0+(i * E.size+(l.length - j) * E.size)+Z.length≤cc.toList.length:=by rw [hZ,hcl2];omega
 have hrow:=ai (Z:=Z) (a:=i * E.size) hDl hl3
 rw [hnn,Nat.add_mul] at hw
 refine ⟨_,_,_,_,φ,rfl,⟨rfl,rfl,rfl⟩,⟨Ren.le_refl _, ?_, ?_, ?_,htop⟩⟩
 ·rw [hcl]
  exact .slice b 0 _ _ c' L hL (Nat.le_refl _) (by omega) hlim
 ·refine (H.put b _ (.cells true E.size (E.flat (GF l i j))) L hb rfl hL hw.size hw.oth ?_).sub fun k ok hk=> ?_
  ·refine ⟨he0,_,ty,fz,hw.here, ?_, ?_, ?_,hfz⟩
   ·have s1:(Ag cc.toList (L.off+0+i * E.size) ((cc.toList.drop (L.off+0+j * E.size)).take ((l.length - j) * E.size))).length=cc.toList.length:=CK (by rw [hDl];omega)
    have s2:(Ag (Ag cc.toList (L.off+0+i * E.size) ((cc.toList.drop (L.off+0+j * E.size)).take ((l.length - j) * E.size))) (L.off+0+(i * E.size+(l.length - j) * E.size)) Z).length=cc.toList.length:=by
     rw [CK (by rw [s1];omega),s1]
    rw [hcl2] at s2
    simpa using s2
   ·rw [hfl];omega
   ·rw [hfl]
    have h3:=hV
    rw [←hrow] at h3
    exact h3
  ·simp only [Hp.Al,Hp.set] at hk
   exact hk
 ·exact ⟨by rw [hw.size];exact Nat.le_refl _,fun k hk hn=>hw.oth k fun e=>hn (by subst e;exact H.DC b _ L hb rfl hL),hw.os,hw.tape,hw.output⟩
end Go.Dm
namespace Go.Dm
inductive TU {α:Type} (E:Bk α) (hp:Hp):Value→List α→Prop
 |nil:TU E hp (.slice none 0 0) []
 |BR (b:Nat) (l:List α) (h:hp b=some (.cells true E.size (E.flat l))) (hn:l.length≤9223372036854775807):TU E hp (.slice (some ⟨b,0,none⟩) l.length l.length) l
section
variable {α:Type} {E:Bk α} {hp:Hp} {v:Value} {l:List α}
theorem TU.slT (h:TU E hp v l):BM E hp v l:=by
 cases h with
 |nil=>exact .nils
 |BR b l h hn=>exact .rows b 0 l.length true _ l h (by rw [List.drop_zero,List.take_of_length_le (by rw [Bk.Bb];exact Nat.le_refl _)]) (by rw [Bk.Bb];omega) (Nat.le_refl _) hn
theorem TU.mono {hp':Hp}(h:TU E hp v l)(hk:∀b n c,v= .slice (some ⟨b,0,none⟩) n c→hp' b=hp b):TU E hp' v l:=by
 cases h with
 |nil=>exact .nil
 |BR b l h hn=>exact .BR b l (by rw [hk b _ _ rfl];exact h) hn
end
def eR:Value→BZ
 | .slice (some ⟨b,_,_⟩) _ _=> [(b,none)]
 |_=> []
def nM (b n:Nat):Value:= .slice (some ⟨b,0,none⟩) n n
def sG {α:Type}(E:Bk α)(l:List α):Option Ay:=some (.cells true E.size (E.flat l))
def xl {α:Type}(v:Value)(l:List α)(i j:Nat):Value:=if i=j then v else match v with
 | .slice (some ⟨b,_,_⟩) _ _=>nM b (GF l i j).length
 |v=>v
def AA8 (x:Nat):Value→Prop
 | .slice (some ⟨b,_,_⟩) _ _=>x≠b
 |_=>True
def AAL (P:Program)(f:FuncId):Prop:=
 ∀(base:Option Addr) (n c i:Nat) (w:World),i≤n→n≤c→Calls P f #[.slice base n c, .int .i64 i, .int .i64 i] w fun e w'=>e= .returned (.slice base n c)∧w' = w
theorem jc {α:Type}{E:Bk α}{hp:Hp}{v:Value}{l:List α}{tt:AO}{top t0 t1 e k:Nat}{i1 j:TI}{a:α}(h0:kindOf tt t0=some (.slice e))(h1:tt t1=some i1)(hi:DB i1.ud=false)(hj:tt e=some j)(hs:j.size=E.size)(hby:Nat.ble j.bytes 65536=true)
  (h:TU E hp v l) (hk:hp k=some (.cells true E.size (E.enc a))) (hn:B6 (l.length+1) j.bytes=true) :
  Ab tt hp top [t0,t1] v (.slice (some ⟨k,0,none⟩) 1 1)=some (nM top (l.length+1),eR v ++ [(top,sG E (gT l l.length a))],top+1):=by
 obtain ⟨i,hi0,hd⟩:=Aa h0
 have hx:BM E hp (.slice (some ⟨k,0,none⟩) 1 1) [a]:=BM.one hk
 have hf:=hx.Ck
 have hlx:=hx.FO
 simp only [List.length_singleton] at hf hlx
 have h3:=E.GO [a]
 have h4:Nat.beq (E.flat [a]).length (1 * E.size)=true:=by rw [Bk.Bb];simp
 have h5:Nat.beq E.size E.size=true:=by simp
 have hins:gT l l.length a=l ++ [a]:=by simp [gT]
 rw [hins]
 cases h with
 |nil=>
  have h6:Nat.beq 1 0=false:=rfl
  have h7:B6 1 j.bytes=true:=hn
  simp only [Ab,hi0,h1,hlx,hi,hd,hj,hs,hf,hby,h3,h4,h6,h7,Bool.and_self,nM,sG,eR,List.nil_append,List.length_nil,Nat.zero_add]
 |BR b l hb hl=>
  have h6:(Nat.ble (l.length+1) l.length && !Nat.beq l.length l.length)=false:=by rw [Nat.beq_refl];simp
  have h7:(Nat.beq (0+l.length * E.size) (E.flat l).length && B6 (l.length+1) j.bytes)=true:=by
   rw [Bool.and_eq_true]
   exact ⟨by rw [Bk.Bb];simp,hn⟩
  simp only [Ab,hi0,h1,hlx,hi,hd,hj,hs,hf,hby,hb,h3,h4,h5,h6,h7,Bool.and_self,nM,sG,eR,List.drop_zero,Bk.Ev,List.cons_append,List.nil_append]
end Go.Dm
