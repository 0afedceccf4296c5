/- The clean machine's walks of tables (1): prefixes, buckets. · The clean machine's walks of tables (2): where a peer belongs, who is seen. -/
import Derived.Test.YtkimkgbppegkhaaGreatKb
import Derived.Test.YtkimkgbppegkhaaGreatCa
set_option linter.unusedVariables false
set_option linter.unusedSimpArgs false
namespace Go.Proofs.YtkimkgbppegkhaaGreat.Cm
open Go Go.RowKit Go.Proofs.YtkimkgbppegkhaaGreat.Gf
set_option maxRecDepth 1000000
/-- the zero bits ahead of a byte's first one -/
def jB(c:Nat):Nat:=if 128≤c then 0 else if 64≤c then 1 else if 32≤c then 2 else if 16≤c then 3 else if 8≤c then 4 else if 4≤c then 5 else if 2≤c then 6 else if 1≤c then 7 else 8
theorem GF:(List.range 256).all (fun c=>jt (vi (jB c)) (d_ 236 [vf (.int .u8 (c:Int))]))=true:=by kernel_rfl
theorem F5{X:Heap}{n c:Nat}(hc:c<256)(ht:ap X n):af 236 [vf (.int .u8 (c:Int))] X n fun v _=>v=vi (jB c):=
 nQ (List.all_eq_true.1 GF c (List.mem_range.2 hc)) rfl rfl ht
theorem yH{c:Nat}(h:c≠0):jB c≤7:=by unfold jB; (repeat' split)<;>omega
/-- how many bits two rows have in common -/
def gG:List Nat→List Nat→Nat
 |a::l,b::k=>if a=b then 8+gG l k else jB (a ^^^ b)
 |_,_=>0
theorem yG:∀{l k:List Nat} {i a b:Nat},l.take i=k.take i→l[i]?=some a→k[i]?=some b→a≠b→gG l k=8*i+jB (a ^^^ b)
 |[],_,_,_,_,_,h,_,_=>by simp at h
 |_::_,[],_,_,_,_,_,h,_=>by simp at h
 |x::l,y::k,0,a,b,_,h1,h2,h3=>by
  simp only[List.getElem?_cons_zero,Option.some.injEq]at h1 h2
  subst h1;subst h2
  simp[gG,h3]
 |x::l,y::k,i+1,a,b,h,h1,h2,h3=>by
  simp only[List.take_succ_cons,List.cons.injEq]at h
  rw[List.getElem?_cons_succ]at h1 h2
  rw[gG,if_pos h.1,yG h.2 h1 h2 h3]
  omega
theorem wR:∀(l:List Nat),gG l l=8*l.length
 |[]=>rfl
 |a::l=>by rw[gG,if_pos rfl,wR l,List.length_cons];omega
theorem yJ:∀(l k:List Nat),l.length=k.length→gG l k≤8*l.length
 |[],_,_=>by simp[gG]
 |_::_,[],h=>by simp at h
 |a::l,b::k,h=>by
  have:=yJ l k (by simpa using h)
  rw[gG,List.length_cons]
  split
  ·omega
  ·rename_i hn
   have:=yH (c:=a ^^^ b) fun h0=>hn (by have:=congrArg (· ^^^ b) h0;simpa[Nat.xor_assoc]using this)
   omega
noncomputable def Ao(P:Program)(o:Oper)(r:Operand→Option V):Option (F×Nat×Nat×Nat×Nat):=match o.op with
 |.slice t x lo hi mx=>match r x,cR r lo,cR r hi,cR r mx with
  |some (.u (.f x)),some (some lo),some (some hi),some (some mx)=>match P.underlying t with
   |some (.slice e)=>match cj P e with
    |some sz=>some (x,sz,lo,hi,mx)
    |none=>none
   |_=>none
  |_,_,_,_=>none
 |_=>none
theorem zZ{P:Program}{H:Heap}{n:Nat}{o:Oper}{r:Operand→Option V}{id off sz len L l h m:Nat}(hL:(H id).bind gj=some L)(hlh:l≤h)(hhm:h≤m)(hhL:off+m*sz≤L)(hsz:0<sz)(hk:Ao P o r=some (.sl id off sz len none,sz,l,h,m):=by kernel_rfl):aE P o r H n (vf (.sl id (off+l*sz) sz (h-l) (some (m-l)))) H n:=by
 unfold Ao at hk
 split at hk
 ·rename_i t x lo' hi' mx' ho
  split at hk
  ·rename_i x' lo2 hi2 mx2 h1 h2 h3 h4
   split at hk
   ·rename_i e hu
    split at hk
    ·rename_i sz' hsz'
     cases hk
     refine .prim (vf (.sl id (off+l*sz) sz (h-l) (some (m-l))),[],0) ?_
     have hcut:d8 len ((none:Option Nat).getD ((L-off)/sz)) none (some l) (some h) (some m)=some (l,h,some m):=by
      simp only[d8,Option.getD_none,Option.getD_some]
      rw[if_pos ⟨(Nat.le_div_iff_mul_le hsz).2 om,hhm,hlh⟩]
     simp only[ho,stepOp,h1,h2,h3,h4,hu,hsz',hL,hcut]
     rw[if_pos ⟨trivial,hsz,om⟩]
     rfl
    ·cases hk
   ·cases hk
  ·cases hk
 ·cases hk
theorem qm{X H:Heap}{n sz bytes m len:Nat}{M:List (Nat×O)}{L:List (List (Nat×O))}(s:aa X H n (cat (M::L)))(j:Nat){id:Nat}{cs new cs':List F}{ex:Bool}{x:F}(hj:M[j]?=some (id,.cells cs ex))(hx:aF H sz x=some new)(hm:cd x=some m)(hr:(len+m)*sz≤cs.length)(hb:(len+m)*bytes*2≤140737488355328)(hsz:0<sz)(hs:aJ cs (len*sz) new=cs'):
 ∃H',aa X H' n (cat (M.set j (id,.cells cs' ex)::L))∧∀(o:Oper) (r:Operand→Option V) (_:jA Tryz.prog o r=some (sz,bytes,.sl id 0 sz len none,x):=by kernel_rfl),aE Tryz.prog o r H n (vf (.sl id 0 sz (len+m) none)) H' n:=by
 obtain⟨h1,h2⟩:=s.setO j hj (.cells cs' ex)
 have hle:len*sz≤(len+m)*sz:=Nat.mul_le_mul_right _ om
 refine⟨_,h2,fun o r hk=>?_⟩
 exact fB (n:=n) hx hm (ef:=(vf (.sl id 0 sz (len+m) none),[(id,some (.cells cs' ex))],0)) (bytes:=bytes) (s:=.sl id 0 sz len none) (by
  simp only[df,if_true,h1]
  rw[if_pos om,if_pos hb,if_pos om,Nat.zero_add,hs]) hk
theorem yQ{X H:Heap}{n sz len l id:Nat}{cs:List F}{ex:Bool}{M:List (Nat×O)}(s:aa X H n M)(hj:M[0]?=some (id,.cells cs ex))(hl:len*sz≤cs.length)(hll:l≤len):aF H sz (.sl id (0+l*sz) sz (len-l) none)=some ((cs.drop (l*sz)).take ((len-l)*sz)):=by
 have h1:=s.at 0 hj
 have h2:l*sz≤len*sz:=Nat.mul_le_mul_right _ hll
 simp only[aF,if_true,h1,Nat.zero_add]
 rw[if_pos (by rw[Nat.sub_mul];omega)]
theorem vk{cs:List F}{len i sz:Nat}(hl:len*sz≤cs.length)(hi:i<len):(aJ cs (i*sz) ((cs.drop ((i+1)*sz)).take ((len-(i+1))*sz))).take ((len-1)*sz)=cs.take (i*sz)++(cs.take (len*sz)).drop ((i+1)*sz):=by
 have h2:(i+1)*sz≤len*sz:=Nat.mul_le_mul_right _ hi
 have h3:i*sz+(len-(i+1))*sz=(len-1)*sz:=by rw[←Nat.add_mul];congr 1;omega
 have h4:(len-(i+1))*sz=len*sz-(i+1)*sz:=Nat.sub_mul ..
 have h5:(i+1)*sz=i*sz+sz:=by rw[Nat.add_mul,Nat.one_mul]
 unfold aJ
 rw[List.take_left' (by rw[List.length_append,List.length_take,List.length_take,List.length_drop];omega),List.drop_take,h4]
theorem E7{X:Heap}{n:Nat}{k len i:Nat}{cs:List F}{ex:Bool}(hl:len*21≤cs.length)(hi:i<len)(hlt:len<100000):al 214 [vf (.sl (k) (0) 21 (len) none),vi i,vi (i+1)] X n (cat [[(k,.cells (cs) ex)]]) fun v _ P'=>∃cs',v=vf (.sl k 0 21 (len-1) none)∧P'=cat [[(k,.cells cs' ex)]]∧(len-1)*21≤cs'.length∧cs'.take ((len-1)*21)=cs.take (i*21)++(cs.take (len*21)).drop ((i+1)*21):=by
 refine al.of_to (Ps:=[[(k,.cells (cs) ex)]]) kr fun R H0 s0=>?_
 have hm0:ab X X:=ab.rfl
 refine ah 1 (ai 4 (ov 12 (ln len) (ov 13 (zZ (id:=k) (off:=0) (sz:=21) (len:=len) (L:=cs.length) (l:=i) (h:=i+1) (m:=len) (by rw[s0.at 0 rfl];rfl) om om om om kr) (aj (aP 2 (ov 16 (eF i (i+1)) (aj (ar (nx (ai 1 (ov 19 (ln len) (ae 1 (sq (dw [0,1,2,3,4,5,6,7] (sg [0,1] (sr (some 22) (k) trivial (c7 (id:=k) (off:=0) (sz:=21) (len:=len) (L:=cs.length) (l:=0) (h:=i) (cap:=none) (lo:=none) (hi:=some i) (by rw[s0.at 0 rfl];rfl) rfl rfl om om (fun c h=>nomatch h) om) (sg [3,4] (sr (some 25) (k) trivial (c7 (id:=k) (off:=0) (sz:=21) (len:=len) (L:=cs.length) (l:=i+1) (h:=len) (cap:=none) (lo:=some (i+1)) (hi:=none) (by rw[s0.at 0 rfl];rfl) rfl rfl om om (fun c h=>nomatch h) om) ?_))))))))))))))))))
 obtain⟨H1,s2,J3⟩:=qm (sz:=21) (bytes:=32) (len:=i) (m:=(len-(i+1))) (x:=.sl (k) (0+(i+1)*21) 21 (len-(i+1)) none) (new:=(cs.drop ((i+1)*21)).take ((len-(i+1))*21)) (cs':=aJ cs (i*21) ((cs.drop ((i+1)*21)).take ((len-(i+1))*21))) s0 0 rfl (yQ s0 rfl om om) (rfl) om om om rfl
 refine sf (some 26) (J3 _ _) (oR kr) ?_
 have hcl:(aJ cs (i*21) ((cs.drop ((i+1)*21)).take ((len-(i+1))*21))).length=cs.length:=by simp only[aJ,List.length_append,List.length_take,List.length_drop];omega
 refine sg [7] (sx (nx (ai 2 (ov 29 (ln (i+(len-(i+1)))) (go 1 (ov 31 (c7 (id:=k) (off:=0) (sz:=21) (len:=i+(len-(i+1))) (L:=(aJ cs (i*21) ((cs.drop ((i+1)*21)).take ((len-(i+1))*21))).length) (l:=i+(len-(i+1))) (h:=len) (cap:=none) (lo:=some (i+(len-(i+1)))) (hi:=some len) (by rw[s2.at 0 rfl];rfl) rfl rfl om om (fun c h=>nomatch h) om) ?_))))))
 obtain⟨H4,cs4,hl4,hc4,s5,J6⟩:=mY (off:=0+(i+(len-(i+1)))*21) (len:=len-(i+(len-(i+1)))) (sz:=21) (cap:=none) (tz 202) s2 0 rfl om
 refine oe (J6 _ _) (aj ?_)
 have e1:i+(len-(i+1))=len-1:=by omega
 rw[Nat.zero_add,e1]at hc4
 refine ah 2 (rt ?_)
 exact⟨.inr rfl,vf (.sl k 0 21 (i+(len-(i+1))) none),kr,X,_,aa.fin (Ps:=[_]) s5,hm0,cs4,by rw[e1],rfl,om,hc4.trans (vk hl hi)⟩
theorem HC{X:Heap}{n:Nat}{f:F}{fs:List F}{P0:List (Nat×O)}{len i:Nat}(ho:av 21 f fs P0)(hl:fs.length=len*21)(hi:i<len)(hlt:len<100000):al 214 [vf f,vi i,vi (i+1)] X n P0 fun v _ P'=>∃f2,v=vf f2∧av 21 f2 (fs.take (i*21)++fs.drop ((i+1)*21)) P':=by
 rcases ho with⟨rfl,rfl,rfl⟩|⟨k,len2,cs,ex,rfl,rfl,hl2,rfl⟩
 ·rw[List.length_nil]at hl;omega
 ·rw[List.length_take,Nat.min_eq_left hl2]at hl
  have:len2=len:=by omega
  subst this
  exact(E7 (ex:=ex) hl2 hi hlt).imp fun v X' P' h=>by
   obtain⟨cs',h1,h2,h3,h4⟩:=h
   refine⟨_,h1,.inr ⟨k,len2-1,cs',ex,rfl,by rw[h2,fP],h3,?_⟩⟩
   rw[h4,List.take_take,Nat.min_eq_left (Nat.mul_le_mul_right _ om)]
theorem Bt{X:Heap}{n:Nat}{a b:List Nat}(ha:a.length=20)(hb:b.length=20)(ha8:B8 a)(hb8:B8 b)(ht:ap X n):af 212 [.u (.agg (bs a)),.u (.agg (bs b))] X n fun v _=>v=vi (gG a b):=by
 refine af.of_to kr ?_
 have s0:aa X X n (cat [[]]):=aa.ini ht
 have hm0:ab X X:=ab.rfl
 have hal:(bs a).length=20:=by rw[bg,ha]
 have hbl:(bs b).length=20:=by rw[bg,hb]
 refine ag ?_
 obtain⟨H7,s8,J9⟩:=ay s0 (.cells (bs a) true)
 refine ov 2 (J9 _ _ (vf (.ptr (n) (0)))) ?_
 obtain⟨_,s,J⟩:=ay s8 (.cells (bs b) true)
 refine ov 3 (J _ _ (vf (.ptr (n+1) (0)))) (ae 1 (sq (ah 1 (bk 0 (lp (aC.for (20) (fun i A Hq nq=>∃(Y:Heap),aL A [(2,vf (.ptr (n) (0))),(3,vf (.ptr (n+1) (0))),(7,vi i)]∧aa Y Hq nq (cat [[(n+1,.cells (bs b) true),(n,.cells (bs a) true)]])∧(ab X Y)∧(a.take i=b.take i)) ⟨X,az (ts:=[2,3,7]) kr,s,(hm0),(by rw[List.take_zero,List.take_zero])⟩ (fun i A H n1 hi hI=>?_) (fun A H n1 hI=>?_)))))))
 ·obtain⟨Y,hT,s,hm0,he⟩:=hI
  refine To.keep _ ?_ hT.sub
  have hai:i<a.length:=by omega
  have hbi:i<b.length:=by omega
  have h1:a[i]<256:=ha8 _ (List.getElem_mem hai)
  have h2:b[i]<256:=hb8 _ (List.getElem_mem hbi)
  have h3:a[i] ^^^ b[i]<256:=Nat.xor_lt_two_pow (n:=8) h1 h2
  refine ag (ov 8 (lT i 20) (aQ (aM (nx (aD 1 (ah 2 (sq (dw [0,1,2,3,4,5,6,7] (sg [0] (ss (some 11) (jk (id:=n) (off:=0) (sz:=1) (len:=20) (k:=i) om) (sr (some 12) (n) trivial (am (id:=n) (off:=0+i*1) (x:=.int .u8 ((a[i]:Nat):Int)) (s.at 1 rfl) (by rw[Nat.zero_add,Nat.mul_one];exact gk (List.getElem?_eq_getElem hai))) ?_)))))))))))
  refine sg [3] (ss (some 14) (jk (id:=n+1) (off:=0) (sz:=1) (len:=20) (k:=i) om) (sr (some 15) (n+1) trivial (am (id:=n+1) (off:=0+i*1) (x:=.int .u8 ((b[i]:Nat):Int)) (s.at 0 rfl) (by rw[Nat.zero_add,Nat.mul_one];exact gk (List.getElem?_eq_getElem hbi))) ?_))
  refine ss (some 16) (au (iQ .u8 a[i] b[i] (by show _≤255;omega) (by show _≤255;omega) (by show _≤255;omega))) (sg [7] (sx (nx ?_)))
  by_cases hz:a[i] ^^^ b[i]=0
  ·refine ai 1 (ov 18 (au (gg .u8 (x:=((a[i] ^^^ b[i]:Nat):Int)) (y:=(0:Int)) om)) (aj (ar (nx (rg (ov 24 (aN i 1) (aR 1 ?_)))))))
   exact .inl ⟨rfl,Y,az (ts:=[2,3,7]) kr,s,(hm0),(by rw[bU (List.getElem?_eq_getElem hai),bU (List.getElem?_eq_getElem hbi),he,show a[i]=b[i]by have:=congrArg (· ^^^ b[i]) hz;simpa[Nat.xor_assoc]using this])⟩
  ·refine ai 1 (ov 18 (au (lB .u8 (x:=((a[i] ^^^ b[i]:Nat):Int)) (y:=(0:Int)) om)) (aj ?_))
   have hlz:=yH hz
   refine iT (ai 1 (ov 20 (au (yK (8) (i) om)) (go 1 ?_)))
   obtain⟨_,W,_,_,m,s,J,rfl⟩:=(F5 h3 s.topX).on s
   have hm0:=hm0.tr m
   refine ov 22 (J _ _) (ov 23 (aN (8*(i)) (jB (a[i] ^^^ b[i]))) (ax 1 (.inr ⟨sm,?_⟩)))
   exact⟨.inr rfl,vi (8*i+jB (a[i] ^^^ b[i])),kr,W,_,s,hm0,by rw[yG he (List.getElem?_eq_getElem hai) (List.getElem?_eq_getElem hbi) fun h=>hz (by rw[h,Nat.xor_self])]⟩
 ·obtain⟨Y,hT,s,hm0,he⟩:=hI
  refine To.keep _ ?_ hT.sub
  refine ag (ov 8 (lF 20 20) (aQ (iF (xt 0 ?_))))
  refine⟨sm,?_⟩
  show To Tryz.prog 212 [1,1] _ _ _ _
  refine ah 1 (rt ?_)
  exact⟨.inr rfl,vi 160,kr,Y,_,s,hm0,by rw[List.take_of_length_le om,List.take_of_length_le om]at he;rw[he,wR,hb]⟩
/-- the bits that two peers' keys have in common -/
def pfK(a b:Nat):Nat:=gG (bd [a]) (bd [b])
theorem sP(a b:Nat):pfK a b≤160:=by
 have:=yJ (bd [a]) (bd [b]) (by rw[cx,cx])
 rw[cx]at this
 exact this
/-- a contact's cells -/
def bB(k:Nat):List F:=iN k::bs (bd [k])
theorem iD(k:Nat):(bB k).length=21:=by rw[bB,List.length_cons,bg,cx]
def b4(_:Heap)(k:Nat)(c:List F):Prop:=c=bB k
theorem b4.mono(X Y:Heap)(a:Nat)(c:List F)(_:ab X Y)(h:b4 X a c):b4 Y a c:=h
/-- a bucket of a table: it owns its contacts -/
def dS(f:F)(l:List Nat)(M:List (Nat×O)):Prop:=∃fs,av 21 f fs M∧aA (b4 fun _=>none) 21 l fs∧(l=[]→f=.sl0)
theorem Fl{X:Heap}{n:Nat}{f:F}{g:Nat}{caps:List F}{l:List Nat}(p:Nat→Bool)(hr:ch b4 21 X f l)(hlt:l.length<100000)(hgo:bX Tryz.prog g=true)(hg:∀(i:Nat) a,l[i]?=some a→∀c Y m,b4 Y a c→ab X Y→ap Y m→af g ([.u (.agg c)]++caps.map fun x=>.u (.f x)) Y m fun v _=>v=vf (.bool (p i)))(ht:ap X n):af 237 [vf (f),.u (.fn g caps)] X n fun v _=>ll p l.length v:=by
 refine af.of_to kr ?_
 have s0:aa X X n (cat [[]]):=aa.ini ht
 have hm0:ab X X:=ab.rfl
 refine ah 1 (aP 1 (ov 7 (lv l.length hr.lenA) (ae 1 (bk 0 (lp (aC.for (l.length) (fun i A Hq nq=>∃(Y:Heap),aL A [(0,vf (f)),(1,.u (.fn g caps)),(7,vi l.length),(8,vi i)]∧aa Y Hq nq (cat [[]])∧(ab X Y)∧(ch b4 21 Y f l)∧(∀j,j<i→p j=false)) ⟨X,az (ts:=[0,1,7,8]) kr,s0,(hm0),(hr),(fun j hj=>by omega)⟩ (fun i A H n1 hi hI=>?_) (fun A H n1 hI=>?_)))))))
 ·obtain⟨Y,hT,s,hm0,hr,hn⟩:=hI
  refine To.keep _ ?_ hT.sub
  have hx:l[i]?=some l[i]:=List.getElem?_eq_getElem hi
  obtain⟨id,off,cap,all,ex,c,rfl,h2,h3,h4,hR⟩:=hr.at hx
  have hcl:c.length=21:=by rw[←h4,List.length_take,List.length_drop];omega
  refine ag (ov 9 (lT i l.length) (aj ?_))
  cases hp:p i
  ·refine sq (aM (nx (aD 1 (ah 2 (ai 3 (ov 14 (ix id off 21 l.length i) (ov 15 (aG (id:=id) (off:=off+i*21) (sz:=21) (c:=c) (s.mono _ _ h2) h3 h4) ?_)))))))
   obtain⟨_,W,_,_,m1,s,J,rfl⟩:=(((hg i _ hx _ _ _ hR hm0 s.topX).imp fun v X' h=>(h.trans (by rw[hp]):v=vf (.bool false))):af g ([.u (.agg (c))]++caps.map fun x=>.u (.f x)) Y (n1) _).on s
   have hm0:=hm0.tr m1
   have hr:=hr.mono b4.mono m1
   refine ov 16 (J _ _ kr hgo) (aj (ar (nx (rg (ov 18 (aN i 1) (aR 1 ?_))))))
   exact .inl ⟨rfl,W,az (ts:=[0,1,7,8]) kr,s,(hm0),(hr),(fun j hj=>by rcases Nat.lt_or_ge j i with h | h;exact hn j h;rw[show j=i by omega];exact hp)⟩
  ·refine sq (aM (nx (aD 1 (ah 2 (ai 3 (ov 14 (ix id off 21 l.length i) (ov 15 (aG (id:=id) (off:=off+i*21) (sz:=21) (c:=c) (s.mono _ _ h2) h3 h4) ?_)))))))
   obtain⟨_,W,_,_,m2,s,J,rfl⟩:=(((hg i _ hx _ _ _ hR hm0 s.topX).imp fun v X' h=>(h.trans (by rw[hp]):v=vf (.bool true))):af g ([.u (.agg (c))]++caps.map fun x=>.u (.f x)) Y (n1) _).on s
   have hm0:=hm0.tr m2
   refine ov 16 (J _ _ kr hgo) (aj (iT (ah 2 (rt (.inr ⟨sm,?_⟩)))))
   exact⟨.inr rfl,_,kr,W,_,s,hm0,.inl ⟨i,hi,hp,hn,rfl⟩⟩
 ·obtain⟨Y,hT,s,hm0,hr,hn⟩:=hI
  refine To.keep _ ?_ hT.sub
  refine ag (ov 9 (lF l.length l.length sm) (aQ (iF (xt 0 ?_))))
  refine⟨sm,?_⟩
  show To Tryz.prog 237 [1,1] _ _ _ _
  refine ah 1 (rt ?_)
  exact⟨.inr rfl,_,kr,Y,_,s,hm0,.inr ⟨hn,rfl⟩⟩
theorem Bu{X:Heap}{n:Nat}{k p bid:Nat}(hb:X bid=some (.cells [iN p] true))(ht:ap X n):af 238 [.u (.agg (bB k)),vf (.ptr (bid) (0))] X n fun v _=>v=vf (.bool (decide (k=p))):=by
 refine af.of_to kr ?_
 have s0:aa X X n (cat [[]]):=aa.ini ht
 have hm0:ab X X:=ab.rfl
 have hcl:=iD k
 refine ag ?_
 obtain⟨_,s,J⟩:=ay s0 (.cells (bB k) true)
 refine ov 2 (J _ _ (vf (.ptr (n) (0)))) (ae 1 (ai 1 (ov 5 (am (id:=n) (off:=0) (x:=iN k) (s.at 0 rfl) rfl) (ov 6 (am (id:=bid) (off:=0) (x:=iN p) (s.mono _ _ hb) rfl) ?_))))
 by_cases hq:k=p
 ·refine ov 7 (eT k p) (ax 1 ?_)
  exact⟨.inr rfl,_,kr,X,_,s,hm0,by rw[decide_eq_true hq]⟩
 ·refine ov 7 (eF k p) (ax 1 ?_)
  exact⟨.inr rfl,_,kr,X,_,s,hm0,by rw[decide_eq_false hq]⟩
theorem av.slv{α:Type}{R:Heap→α→List F→Prop}{X H:Heap}{n sz:Nat}{a:F}{fs:List F}{M:List (Nat×O)}{l:List α}(h:av sz a fs M)(hc:aA (R X) sz l fs)(hsz:0<sz)(hR:∀X Y a c,ab X Y→R X a c→R Y a c)(A B:List (List (Nat×O)))(s:aa X H n (cat (A++M::B))):ch R sz H a l:=by
 have hcl:=hc.len
 rcases h with⟨rfl,rfl,rfl⟩|⟨k,len,cs,ex,rfl,rfl,hl,rfl⟩
 ·have hc0:0=l.length*sz:=hcl
  rcases Nat.mul_eq_zero.1 hc0.symm with h | h
  ·exact .inl ⟨rfl,List.eq_nil_of_length_eq_zero h⟩
  ·omega
 ·have hk:=(s.own (k,.cells cs ex) (by rw[bT];simp[cat])).1
  rw[List.length_take,Nat.min_eq_left hl]at hcl
  have:len=l.length:=Nat.eq_of_mul_eq_mul_right hsz hcl
  subst this
  exact .inr ⟨k,0,none,cs,ex,rfl,hk,om,by rw[List.drop_zero];exact hc.mono fun a c h=>hR _ _ _ _ s.mono h⟩
theorem b4.any{X Y:Heap}{a:Nat}{c:List F}(h:b4 X a c):b4 Y a c:=h
theorem dS.row{f:F}{l:List Nat}{M:List (Nat×O)}(h:dS f l M){X H:Heap}{n:Nat}(A B:List (List (Nat×O)))(s:aa X H n (cat (A++M::B))):ch b4 21 H f l:=by
 obtain⟨fs,h1,h2,_⟩:=h
 exact h1.slv (R:=b4) (show aA (b4 X) 21 l fs from h2) om b4.mono A B s
theorem vD{X:Heap}{n:Nat}{tid o k:Nat}{cs:List F}{f:F}{l:List Nat}{M:List (Nat×O)}(hcs:cs[o]?=some f)(hb:dS f l M)(hlt:l.length<100000):al 213 [vf (.ptr (tid) (o)),vi k] X n (cat [[(tid,.cells (cs) true)],M]) fun v _ P'=>P'=cat [[(tid,.cells cs true)],M]∧((∃i,l[i]?=some k∧(∀j,j<i→l[j]?≠some k)∧v=vi i)∨(k∉l∧v=vf (.int .i64 (-1)))):=by
 refine al.of_to (Ps:=[[(tid,.cells (cs) true)],M]) kr fun R H0 s0=>?_
 have hm0:ab X X:=ab.rfl
 refine ag ?_
 obtain⟨H,s,J⟩:=ay s0 (.cells [iN k] true)
 refine ov 3 (J _ _ (vf (.ptr (n) (0)))) (ae 1 (ai 3 (ov 8 (am (id:=tid) (off:=o) (x:=f) (s.at 1 rfl) hcs) ?_)))
 obtain⟨v,X2,n2,hcI,hmI,htI,hfi⟩:=((Fl (X:=H) (f:=f) (l:=l) (caps:=[.ptr n 0]) (fun i=>decide (l[i]?=some k)) (hb.row [_] [_] s) hlt kr (fun i a ha c Y m hR hm ht=>by
  cases(hR:c=bB a)
  exact(Bu (p:=k) (hm _ _ (s.at 0 rfl)) ht).imp fun v _ h=>by rw[h,ha];simp) s.top):af _ _ _ _ _)
 rcases hfi with⟨i,hi,hpI,hn,rfl⟩|⟨hn,rfl⟩
 ·refine go 1 ?_
  obtain⟨_,_,_,hc47,hm48,ht49,rfl⟩:=(af.same hcI hmI htI:af 237 [vf (f),.u (.fn 238 [.ptr (n) (0)])] H (n+1) _)
  have s:=s.callH hc47 hm48 ht49
  refine ov 10 (jC hc47) (ax 1 ?_)
  exact⟨.inr rfl,_,kr,X,_,aa.fin (Ps:=[_,_]) (aa.tl s),hm0,rfl,.inl ⟨i,of_decide_eq_true hpI,fun j hj=>of_decide_eq_false (hn j hj),rfl⟩⟩
 ·refine go 1 ?_
  obtain⟨_,_,_,hc53,hm54,ht55,rfl⟩:=(af.same hcI hmI htI:af 237 [vf (f),.u (.fn 238 [.ptr (n) (0)])] H (n+1) _)
  have s:=s.callH hc53 hm54 ht55
  refine ov 10 (jC hc53) (ax 1 ?_)
  exact⟨.inr rfl,_,kr,X,_,aa.fin (Ps:=[_,_]) (aa.tl s),hm0,rfl,.inr ⟨fun hk=>by
   obtain⟨i,hi,he⟩:=List.getElem_of_mem hk
   exact of_decide_eq_false (hn i hi) (by rw[List.getElem?_eq_getElem hi,he]),rfl⟩⟩
theorem Fa{X:Heap}{n tid o k:Nat}{cs:List F}{f:F}{l:List Nat}{M:List (Nat×O)}(hcs:cs[o]?=some f)(hb:dS f l M)(hlt:l.length<100000)(hk:k∈l):al 213 [vf (.ptr tid o),vi k] X n (cat [[(tid,.cells cs true)],M]) fun v _ P'=>P'=cat [[(tid,.cells cs true)],M]∧∃i,l[i]?=some k∧v=vi i:=
 (vD hcs hb hlt).imp fun v X' P' h=>⟨h.1,by
  rcases h.2 with⟨i,h1,_,h2⟩|⟨h1,_⟩
  ·exact⟨i,h1,h2⟩
  ·exact(h1 hk).elim⟩
theorem Da{X:Heap}{n tid o k:Nat}{cs:List F}{f:F}{l:List Nat}{M:List (Nat×O)}(hcs:cs[o]?=some f)(hb:dS f l M)(hlt:l.length<100000)(hk:k∉l):al 213 [vf (.ptr tid o),vi k] X n (cat [[(tid,.cells cs true)],M]) fun v _ P'=>P'=cat [[(tid,.cells cs true)],M]∧v=vf (.int .i64 (-1)):=
 (vD hcs hb hlt).imp fun v X' P' h=>⟨h.1,by
  rcases h.2 with⟨i,h1,_,h2⟩|⟨_,h1⟩
  ·exact(hk (List.mem_of_getElem? h1)).elim
  ·exact h1⟩
theorem aA.drop{α:Type}{R:α→List F→Prop}{sz:Nat}:∀{l:List α} {fs:List F} (i:Nat),aA R sz l fs→aA R sz (l.drop i) (fs.drop (i*sz))
 |l,fs,0,h=>by rw[Nat.zero_mul];exact h
 |[],fs,i+1,h=>by cases(show fs=[]from h);simp[aA]
 |a::l,fs,i+1,h=>by
  obtain⟨c,r,rfl,h2,_,h4⟩:=h
  rw[List.drop_succ_cons,Nat.add_mul,Nat.one_mul,Nat.add_comm,←h2,List.drop_length_add_append]
  rw[h2]
  exact h4.drop i
theorem aA.take{α:Type}{R:α→List F→Prop}{sz:Nat}:∀{l:List α} {fs:List F} (i:Nat),aA R sz l fs→aA R sz (l.take i) (fs.take (i*sz))
 |l,fs,0,h=>by rw[Nat.zero_mul];exact rfl
 |[],fs,i+1,h=>by cases(show fs=[]from h);simp[aA]
 |a::l,fs,i+1,h=>by
  obtain⟨c,r,rfl,h2,h3,h4⟩:=h
  rw[List.take_succ_cons,Nat.add_mul,Nat.one_mul,Nat.add_comm,←h2,List.take_length_add_append]
  rw[h2]
  exact⟨c,_,rfl,h2,h3,h4.take i⟩
theorem aA.erase{α:Type}{R:α→List F→Prop}{sz:Nat}{l:List α}{fs:List F}(h:aA R sz l fs)(i:Nat):aA R sz (l.eraseIdx i) (fs.take (i*sz)++fs.drop ((i+1)*sz)):=by
 rw[List.eraseIdx_eq_take_drop_succ]
 exact(h.take i).append (h.drop (i+1))
theorem mf{cs:List F}{o:Nat}{x:F}(h:o<cs.length):aJ cs o [x]=cs.set o x:=by
 unfold aJ
 rw[List.set_eq_take_append_cons_drop,if_pos h]
 simp
theorem A5{cs:List F}{o:Nat}{x y:F}(h:o<cs.length):aJ (cs.set o x) o [y]=cs.set o y:=by
 rw[mf (by simpa using h),List.set_set]
theorem Dz{α:Type}{l:List α}{i:Nat}{a:α}(h:l[i]?=some a):(l.eraseIdx i++[a]).Perm l:=by
 obtain⟨h1,rfl⟩:=List.getElem?_eq_some_iff.1 h
 rw[List.eraseIdx_eq_take_drop_succ]
 refine(by rw[List.append_assoc];exact List.Perm.append_left _ List.perm_append_comm:(l.take i++l.drop (i+1)++[l[i]]).Perm (l.take i++([l[i]]++l.drop (i+1)))).trans ?_
 rw[List.singleton_append,List.getElem_cons_drop,List.take_append_drop]
theorem yh{X H:Heap}{n:Nat}{a b c:Nat×O}{M R:List (Nat×O)}(s:aa X H n (cat [[a,b,c],M,R])):aa X H n (cat [[a],M,R]):=s.sub (by
 simp only[cat,List.cons_append,List.nil_append]
 exact List.Sublist.cons_cons _ (List.Sublist.cons _ (List.Sublist.cons _ (List.Sublist.refl _))))
theorem DY{X:Heap}{n:Nat}{tid o k:Nat}{cs:List F}{f:F}{l:List Nat}{M:List (Nat×O)}(hcs:cs[o]?=some f)(hb:dS f l M)(hlb:l.length<1000)(hlt:k∉l→l.length<3):al 162 [vf (.ptr (tid) (o)),.u (.agg (bB k))] X n (cat [[(tid,.cells (cs) true)],M]) fun v _ P'=>v=.tup [.agg [.int .i64 0,.int .u8 0,.int .u8 0,.int .u8 0,.int .u8 0,.int .u8 0,.int .u8 0,.int .u8 0,.int .u8 0,.int .u8 0,.int .u8 0,.int .u8 0,.int .u8 0,.int .u8 0,.int .u8 0,.int .u8 0,.int .u8 0,.int .u8 0,.int .u8 0,.int .u8 0,.int .u8 0],.f (.bool false)]∧∃f' M' l',P'=cat [[(tid,.cells (cs.set o f') true)],M']∧dS f' l' M'∧(k∈l∧l'.Perm l∨k∉l∧l'=l++[k]):=by
 refine al.of_to (Ps:=[[(tid,.cells (cs) true)],M]) kr fun R H0 s0=>?_
 have hm0:ab X X:=ab.rfl
 have hcl:=iD k
 obtain⟨fs,ho,hc,hf0⟩:=hb
 have hol:o<cs.length:=(List.getElem?_eq_some_iff.1 hcs).1
 refine ag ?_
 obtain⟨_,s,J⟩:=ay s0 (.cells (bB k) true)
 refine ov 3 (J _ _ (vf (.ptr (n) (0)))) ?_
 obtain⟨_,s1,J⟩:=ay s (.cells [.int .i64 0,.int .u8 0,.int .u8 0,.int .u8 0,.int .u8 0,.int .u8 0,.int .u8 0,.int .u8 0,.int .u8 0,.int .u8 0,.int .u8 0,.int .u8 0,.int .u8 0,.int .u8 0,.int .u8 0,.int .u8 0,.int .u8 0,.int .u8 0,.int .u8 0,.int .u8 0,.int .u8 0] true)
 refine ov 4 (J _ _ (vf (.ptr (n+1) (0)))) (ae 1 (sq (ah 2 (ar (nx (aP 2 (ov 12 (am (id:=n) (off:=0) (x:=iN k) (s1.at 1 rfl) rfl) ?_)))))))
 have s2:=aa.outAt [_,_] [] s1
 have s3:=aa.pck [_] [_] [_,_] s2
 by_cases hk:k∈l
 ·obtain⟨_,_,_,_,P2,m,s4,J,⟨rfl,i,hi,rfl⟩⟩:=(Fa (k:=k) hcs ⟨fs,ho,hc,hf0⟩ om hk).on [_] [_] s3
  refine ov 13 (J _ _) ?_
  have hil:i<l.length:=(List.getElem?_eq_some_iff.1 hi).1
  refine ae 1 (ai 1 (ov 15 (hT i 0) (aj ?_)))
  have s5:=aa.unp [_] [_] [_,_] s4
  have s6:=aa.inn [] [_,_] s5
  refine iT (rg (go 4 (ov 20 (am (id:=tid) (off:=o) (x:=f) (s6.at 0 rfl) hcs) (go 2 (ov 23 (aN i 1) ?_)))))
  obtain⟨_,_,_,n1,M2,m1,s7,J,⟨f2,rfl,ho2⟩⟩:=(HC (i:=i) ho hc.len om om).on [_] [_] s6
  refine ov 24 (J _ _) ?_
  have hc2:=hc.erase i
  have hl2:(l.eraseIdx i).length=l.length-1:=List.length_eraseIdx_of_lt hil
  refine go 2 ?_
  obtain⟨_,s8,J⟩:=aI (off:=o) (new:=[f2]) (cs':=cs.set o f2) s7 0 rfl (by simp;omega) (mf om)
  refine oe (J _ _) (aQ (dw [1,2,3,4,5,6,7,0,8,9,10] (sg [1,2,3] (sr (some 43) (tid) trivial (am (id:=tid) (off:=o) (x:=f2) (s8.at 0 rfl) (by rw[List.getElem?_set_self om])) ?_))))
  refine sr (some 44) (n) trivial (aG (off:=0) (sz:=21) (c:=bB k) (s8.at 2 rfl) om (by rw[List.drop_zero,List.take_of_length_le om])) ?_
  obtain⟨W,_,s9,m2,f1,J⟩:=lR (sz:=21) (c:=bB k) s8 om
  have hm0:=hm0.tr (m.tr (m1.tr m2))
  refine sf (some 45) (J _ _) ⟨ki,ke (s8.at 0 rfl) (s9.at 0 rfl),trivial⟩ ?_
  obtain⟨a1,_,_,P,ho92,s10,J⟩:=b6 (sz:=21) (bytes:=32) (x:=.sl (n1) (0) 21 (1) none) (new:=bB k) [_] [_] s9 (ho2) (bf (s9.mono _ _ f1) om) (rfl) om (by rw[hc2.len];omega)
  refine sf (some 46) (J _ _) (oR kr) (sg [0,8,9] ?_)
  obtain⟨_,s11,J⟩:=aI (off:=o) (new:=[a1]) (cs':=cs.set o a1) s10 0 rfl (by simp;omega) (A5 om)
  refine sf none (J _ _) (oR kr) (sx (nx (ai 1 ?_)))
  obtain⟨_,s12,J⟩:=aI (off:=0) (new:=[.int .i64 0,.int .u8 0,.int .u8 0,.int .u8 0,.int .u8 0,.int .u8 0,.int .u8 0,.int .u8 0,.int .u8 0,.int .u8 0,.int .u8 0,.int .u8 0,.int .u8 0,.int .u8 0,.int .u8 0,.int .u8 0,.int .u8 0,.int .u8 0,.int .u8 0,.int .u8 0,.int .u8 0]) (cs':=[.int .i64 0,.int .u8 0,.int .u8 0,.int .u8 0,.int .u8 0,.int .u8 0,.int .u8 0,.int .u8 0,.int .u8 0,.int .u8 0,.int .u8 0,.int .u8 0,.int .u8 0,.int .u8 0,.int .u8 0,.int .u8 0,.int .u8 0,.int .u8 0,.int .u8 0,.int .u8 0,.int .u8 0]) s11 1 rfl sm rfl
  refine oe (J _ _) (ax 1 ?_)
  exact⟨.inr rfl,_,cS (s12.at 1 rfl) kr kr,W,_,aa.fin (Ps:=[_,_]) (yh s12),hm0,rfl,a1,P,_,rfl,⟨_,ho92,hc2.snoc (a:=k) rfl (iD k),fun h=>by simp at h⟩,.inl ⟨hk,Dz hi⟩⟩
 ·obtain⟨_,_,_,n2,P2,m3,s13,J,⟨rfl,rfl⟩⟩:=(Da (k:=k) hcs ⟨fs,ho,hc,hf0⟩ om hk).on [_] [_] s3
  refine ov 13 (J _ _) ?_
  have s14:=aa.unp [_] [_] [_,_] s13
  have s15:=aa.inn [] [_,_] s14
  refine ae 1 (ai 1 (ov 15 (au (gS .i64 (x:=(-1:Int)) (y:=(0:Int)) om)) (aj (iF (ai 3 (ov 30 (am (id:=tid) (off:=o) (x:=f) (s15.at 0 rfl) hcs) (ov 31 (lv l.length (ho.lenC om hc)) (ov 32 (hF l.length 3 (by have:=hlt hk;omega)) (aj (ar (nx (sq (dw [1,2,3,4,5,6,7,0,8,9,10] (sg [1,2,3] (sr (some 43) (tid) trivial (am (id:=tid) (off:=o) (x:=f) (s15.at 0 rfl) (hcs)) (sr (some 44) (n) trivial (aG (off:=0) (sz:=21) (c:=bB k) (s15.at 2 rfl) om (by rw[List.drop_zero,List.take_of_length_le om])) ?_))))))))))))))))
  obtain⟨W,_,s16,m4,f3,J⟩:=lR (sz:=21) (c:=bB k) s15 om
  have hm0:=hm0.tr (m3.tr m4)
  refine sf (some 45) (J _ _) ⟨ki,ke (s15.at 0 rfl) (s16.at 0 rfl),trivial⟩ ?_
  obtain⟨a2,_,_,P1,ho119,s17,J⟩:=b6 (sz:=21) (bytes:=32) (x:=.sl (n2) (0) 21 (1) none) (new:=bB k) [_] [_] s16 (ho) (bf (s16.mono _ _ f3) om) (rfl) om (by rw[hc.len];omega)
  refine sf (some 46) (J _ _) (oR kr) (sg [0,8,9] ?_)
  obtain⟨_,s18,J⟩:=aI (off:=o) (new:=[a2]) (cs':=cs.set o a2) s17 0 rfl (by simp;omega) (mf om)
  refine sf none (J _ _) (oR kr) (sx (nx (ai 1 ?_)))
  obtain⟨_,s19,J⟩:=aI (off:=0) (new:=[.int .i64 0,.int .u8 0,.int .u8 0,.int .u8 0,.int .u8 0,.int .u8 0,.int .u8 0,.int .u8 0,.int .u8 0,.int .u8 0,.int .u8 0,.int .u8 0,.int .u8 0,.int .u8 0,.int .u8 0,.int .u8 0,.int .u8 0,.int .u8 0,.int .u8 0,.int .u8 0,.int .u8 0]) (cs':=[.int .i64 0,.int .u8 0,.int .u8 0,.int .u8 0,.int .u8 0,.int .u8 0,.int .u8 0,.int .u8 0,.int .u8 0,.int .u8 0,.int .u8 0,.int .u8 0,.int .u8 0,.int .u8 0,.int .u8 0,.int .u8 0,.int .u8 0,.int .u8 0,.int .u8 0,.int .u8 0,.int .u8 0]) s18 1 rfl sm rfl
  refine oe (J _ _) (ax 1 ?_)
  exact⟨.inr rfl,_,cS (s19.at 1 rfl) kr kr,W,_,aa.fin (Ps:=[_,_]) (yh s19),hm0,rfl,a2,P1,_,rfl,⟨_,ho119,hc.snoc (a:=k) rfl (iD k),fun h=>by simp at h⟩,.inr ⟨hk,rfl⟩⟩
def il:List (List Nat)→List F→List (List (Nat×O))→Prop
 |[],[],[]=>True
 |l::bk,f::fl,M::Ps=>dS f l M∧il bk fl Ps
 |_,_,_=>False
theorem il.len:∀{bk:List (List Nat)} {fl:List F} {Ps:List (List (Nat×O))},il bk fl Ps→fl.length=bk.length∧Ps.length=bk.length
 |[],[],[],_=>⟨rfl,rfl⟩
 |l::bk,f::fl,M::Ps,h=>by
  have:=il.len h.2
  simp[this.1,this.2]
theorem il.at:∀{bk:List (List Nat)} {fl:List F} {Ps:List (List (Nat×O))} {j:Nat} {l:List Nat},il bk fl Ps→bk[j]?=some l→∃f M A B,fl[j]?=some f∧dS f l M∧Ps=A++M::B∧∀f' l' M',dS f' l' M'→il (bk.set j l') (fl.set j f') (A++M'::B)
 |[],[],[],j,l,_,h=>by simp at h
 |x::bk,f::fl,M::Ps,0,l,hb,h=>by
  simp only[List.getElem?_cons_zero,Option.some.injEq]at h
  subst h
  exact⟨f,M,[],Ps,rfl,hb.1,rfl,fun f' l' M' h=>⟨h,hb.2⟩⟩
 |x::bk,f::fl,M::Ps,j+1,l,hb,h=>by
  rw[List.getElem?_cons_succ]at h
  obtain⟨f0,M0,A,B,h1,h2,rfl,h4⟩:=il.at hb.2 h
  exact⟨f0,M0,M::A,B,h1,h2,rfl,fun f' l' M' h=>⟨hb.1,h4 f' l' M' h⟩⟩
/-- a peer's table: whom it knows -/
def Ak(tid n:Nat)(bk:List (List Nat))(P:List (Nat×O)):Prop:=∃fl Ps,P.Perm (cat ([(tid,.cells (iN n::(bs (bd [n])++fl)) true)]::Ps))∧il bk fl Ps
def eZ(tid n:Nat)(S:List Nat)(P:List (Nat×O)):Prop:=∃bk,Ak tid n bk P∧bk.length=161∧bk.flatten.Perm S∧∀j l,bk[j]?=some l→∀k∈l,pfK k n=j
def bp(n:Nat)(S:List Nat)(k:Nat):List Nat:=if k=n∨k∈S then S else S++[k]
noncomputable def Aj(P:Program)(o:Oper)(r:Operand→Option V):Option (List (Nat×Nat)×List F×List (Nat×List F)):=match o.op with
 |.build t parts=>match dz P t,fj r parts.toList with
  |some ti,some ps=>match P.underlying t with
   |some (.struct fs)=>match jN P fs.toList with
    |some pl=>some (pl,ti.zero,ps)
    |none=>none
   |_=>none
  |_,_=>none
 |_=>none
theorem sB{P:Program}{H:Heap}{n:Nat}{o:Oper}{r:Operand→Option V}{pl:List (Nat×Nat)}{z cs:List F}{ps:List (Nat×List F)}(hf:dJ (fun i=>pl[i]?) z ps=some cs)(hk:Aj P o r=some (pl,z,ps):=by kernel_rfl):aE P o r H n (.u (.agg cs)) H n:=by
 unfold Aj at hk
 split at hk
 ·rename_i t parts ho
  split at hk
  ·rename_i ti ps' h1 h2
   split at hk
   ·rename_i fs hu
    split at hk
    ·rename_i pl' h3
     cases hk
     refine .prim (.u (.agg cs),[],0) ?_
     simp only[ho,stepOp,h1,h2,hu,h3,hf]
     rfl
    ·cases hk
   ·cases hk
  ·cases hk
 ·cases hk
theorem FG(n:Nat)(fl:List F):((iN n::(bs (bd [n])++fl)).drop 1).take 20=bs (bd [n]):=by
 rw[List.drop_succ_cons,List.drop_zero,List.take_left' (by rw[bg,cx])]
theorem FT{n:Nat}{fl:List F}(h:fl.length=161):(iN n::(bs (bd [n])++fl)).length=182:=by rw[List.length_cons,List.length_append,bg,cx,h]
theorem yz{n j:Nat}{fl:List F}:(iN n::(bs (bd [n])++fl))[21+j*1]?=fl[j]?:=by
 rw[show 21+j*1=(20+j)+1 by omega,List.getElem?_cons_succ,List.getElem?_append_right (by rw[bg,cx];omega),bg,cx,Nat.add_sub_cancel_left]
theorem F7{n j:Nat}{x:F}{fl:List F}:(iN n::(bs (bd [n])++fl)).set (21+j*1) x=iN n::(bs (bd [n])++fl.set j x):=by
 rw[show 21+j*1=(20+j)+1 by omega,List.set_cons_succ,List.set_append_right _ _ (by rw[bg,cx];omega),bg,cx,Nat.add_sub_cancel_left]
theorem aa.out0{X H:Heap}{n:Nat}{M:List (Nat×O)}{L:List (List (Nat×O))}(s:aa X H n (cat (M::L))):aa X H n (cat L):=s.sub (List.sublist_append_right _ _)
theorem EL{bk:List (List Nat)}{j:Nat}{l l':List Nat}(h:bk[j]?=some l):(l++(bk.set j l').flatten).Perm (l'++bk.flatten):=by
 induction bk generalizing j with
 |nil=>simp at h
 |cons x bk ih=>
  cases j with
  |zero=>
   simp only[List.getElem?_cons_zero,Option.some.injEq]at h
   subst h
   simp only[List.set_cons_zero,List.flatten_cons]
   rw[←List.append_assoc,←List.append_assoc]
   exact List.Perm.append_right _ List.perm_append_comm
  |succ j=>
   rw[List.getElem?_cons_succ]at h
   simp only[List.set_cons_succ,List.flatten_cons]
   have:=ih h
   refine(List.perm_append_comm_assoc ..).trans ((List.Perm.append_left x this).trans (List.perm_append_comm_assoc ..))
theorem D8{X:Heap}{n:Nat}{tid n0 k:Nat}{fl:List F}(hfl:fl.length=161):al 161 [vf (.ptr (tid) (0)),vi k] X n (cat [[(tid,.cells (iN n0::(bs (bd [n0])++fl)) true)]]) fun v _ P'=>(∃o,o=21+pfK k n0*1∧v=vf (.ptr tid o))∧P'=cat [[(tid,.cells (iN n0::(bs (bd [n0])++fl)) true)]]:=by
 refine al.of_to (Ps:=[[(tid,.cells (iN n0::(bs (bd [n0])++fl)) true)]]) kr fun R H0 s0=>?_
 have hm0:ab X X:=ab.rfl
 have hk20:(bs (bd [k])).length=20:=by rw[bg,cx]
 have hn20:(bs (bd [n0])).length=20:=by rw[bg,cx]
 have hpf:=sP k n0
 refine ah 1 (sq (dw [1,2,3,4,5,6,7,8,0,9,10,11,12] (sg [1] ?_)))
 obtain⟨X1,H2,s3,m4,f5,J6⟩:=bj s0 (.cells [iN k] true)
 refine sf (some 7) (J6 _ _ (vf (.sl (n) (0) 1 (1) none))) trivial ?_
 obtain⟨_,X7,H8,n9,m,s,J,rfl⟩:=(iA (l:=[k]) (bf (cap:=none) f5 rfl) sm s3.topX).on s3
 have f:=m _ _ f5
 refine sf (some 8) (J _ _) trivial (sg [4,5,6] (sr (some 12) (tid) ⟨ke (s3.at 0 rfl) (s.at 0 rfl),ke (s0.at 0 rfl) (s3.at 0 rfl),trivial⟩ (aG (id:=tid) (off:=1) (sz:=20) (c:=bs (bd [n0])) (s.at 0 rfl) (by rw[FT hfl];decide) (FG n0 fl)) ?_))
 obtain⟨_,W,_,_,m1,s,J,rfl⟩:=(Bt (a:=bd [k]) (b:=bd [n0]) (cx _) (cx _) (r8 _) (r8 _) s.topX).on s
 have f1:=m1 _ _ f
 have hm0:=hm0.tr (m4.tr (m.tr m1))
 refine sf (some 13) (J _ _) (oR kr) (sg [0,9,10] (ss (some 16) (jk (id:=tid) (off:=21) (sz:=1) (len:=161) (k:=pfK k n0) om) (sg [12] (sx (nx (rt ?_))))))
 exact⟨.inr rfl,_,kr,W,_,aa.fin (Ps:=[_]) s,hm0,⟨_,rfl,rfl⟩,rfl⟩
theorem Gu{X:Heap}{n:Nat}{tid n0 k:Nat}{fl:List F}{f:F}{l:List Nat}{M Q:List (Nat×O)}(hfl:fl.length=161)(hkn:k≠n0)(hf:fl[pfK k n0]?=some f)(hb:dS f l M)(hlb:l.length<1000)(hlt:k∉l→l.length<3):al 116 [vf (.ptr (tid) (0)),vi k] X n (cat [[(tid,.cells (iN n0::(bs (bd [n0])++fl)) true)],M,Q]) fun v _ P'=>v=.tup [.f (.int .i64 0),.f (.bool false)]∧∃f2 M2 l2,P'=cat [[(tid,.cells (iN n0::(bs (bd [n0])++fl.set (pfK k n0) f2)) true)],M2,Q]∧dS f2 l2 M2∧(k∈l∧l2.Perm l∨k∉l∧l2=l++[k]):=by
 refine al.of_to (Ps:=[[(tid,.cells (iN n0::(bs (bd [n0])++fl)) true)],M,Q]) kr fun R H0 s0=>?_
 have hm0:ab X X:=ab.rfl
 have hk20:(bs (bd [k])).length=20:=by rw[bg,cx]
 have hpf:=sP k n0
 refine ah 2 (aP 4 (ov 12 (lF k 0) (go 6 (ov 19 (am (id:=tid) (off:=0) (x:=iN n0) (s0.at 0 rfl) rfl) (ov 20 (eF k n0) ?_)))))
 have s:=aa.outAt [] [] s0
 have s:=aa.pck [_] [_,_,_] [_] s
 refine ae 1 (ar (nx (sq (dw [0,1,2,6,7,8,3,4,5,9,10,11,12,14,15,13,16] (sg [0,1] ?_)))))
 obtain⟨_,_,_,n1,P2,m,s,J,⟨⟨o,ho,rfl⟩,rfl⟩⟩:=(D8 (k:=k) hfl).on [_] [_,_,_] s
 refine sf (some 25) (J _ _) trivial ?_
 have s:=aa.unp [_] [_,_,_] [_] s
 refine sg [6] ?_
 obtain⟨_,_,s,m1,f1,J⟩:=bj s (.cells [iN k] true)
 refine sf (some 30) (J _ _ (vf (.sl (n1) (0) 1 (1) none))) trivial ?_
 obtain⟨_,_,_,_,m2,s,J,rfl⟩:=(iA (l:=[k]) (bf (cap:=none) f1 rfl) sm s.topX).on s
 refine sf (some 31) (J _ _) trivial ?_
 have s:=aa.pck [_] [_,_] [_,_] s
 refine sg [3,4,5] ?_
 have hL44:(iN k::(bs (bd [k]))).length=21:=by simp only[List.length_cons,List.length_append,List.length_nil,hk20]
 refine ss (some 32) (sB (cs:=iN k::(bs (bd [k]))) (pl:=[(0,1),(1,20)]) (z:=[.int .i64 0,.int .u8 0,.int .u8 0,.int .u8 0,.int .u8 0,.int .u8 0,.int .u8 0,.int .u8 0,.int .u8 0,.int .u8 0,.int .u8 0,.int .u8 0,.int .u8 0,.int .u8 0,.int .u8 0,.int .u8 0,.int .u8 0,.int .u8 0,.int .u8 0,.int .u8 0,.int .u8 0]) (ps:=[(0,[iN k]),(1,bs (bd [k]))]) (by simp[dJ,aJ,hk20]) kr) ?_
 obtain⟨_,W,_,n2,P2,m3,s,J,⟨rfl,f2,M2,l2,rfl,hb2,hl2⟩⟩:=(DY (o:=o) (by rw[ho,yz];exact hf) hb hlb hlt).on [_] [_,_] s
 have hm0:=hm0.tr (m.tr (m1.tr (m2.tr m3)))
 refine sf (some 33) (J _ _) trivial ?_
 have s:=aa.unp [_] [_,_] [_,_] s
 refine sg [11,12] ?_
 obtain⟨_,s,J⟩:=ay s (.cells [.int .i64 0,.int .u8 0,.int .u8 0,.int .u8 0,.int .u8 0,.int .u8 0,.int .u8 0,.int .u8 0,.int .u8 0,.int .u8 0,.int .u8 0,.int .u8 0,.int .u8 0,.int .u8 0,.int .u8 0,.int .u8 0,.int .u8 0,.int .u8 0,.int .u8 0,.int .u8 0,.int .u8 0] true)
 refine sf (some 6) (J _ _ (vf (.ptr (n2) (0)))) trivial ?_
 obtain⟨_,s,J⟩:=aI (off:=0) (new:=[.int .i64 0,.int .u8 0,.int .u8 0,.int .u8 0,.int .u8 0,.int .u8 0,.int .u8 0,.int .u8 0,.int .u8 0,.int .u8 0,.int .u8 0,.int .u8 0,.int .u8 0,.int .u8 0,.int .u8 0,.int .u8 0,.int .u8 0,.int .u8 0,.int .u8 0,.int .u8 0,.int .u8 0]) (cs':=[.int .i64 0,.int .u8 0,.int .u8 0,.int .u8 0,.int .u8 0,.int .u8 0,.int .u8 0,.int .u8 0,.int .u8 0,.int .u8 0,.int .u8 0,.int .u8 0,.int .u8 0,.int .u8 0,.int .u8 0,.int .u8 0,.int .u8 0,.int .u8 0,.int .u8 0,.int .u8 0,.int .u8 0]) s 0 rfl sm rfl
 refine sf none (J _ _) trivial (sg [13,16] (sx (nx (ai 1 (ov 37 (ld 0 (s.at 0 rfl) rfl) (ax 3 ?_))))))
 exact⟨.inr rfl,_,kr,W,_,aa.fin (Ps:=[_,_,_]) (aa.out0 s),hm0,rfl,f2,M2,l2,by rw[ho,F7],hb2,hl2⟩
theorem D1{X:Heap}{n:Nat}{tid n0:Nat}{fl:List F}{Q:List (Nat×O)}:al 116 [vf (.ptr (tid) (0)),vi n0] X n (cat [[(tid,.cells (iN n0::(bs (bd [n0])++fl)) true)],Q]) fun v _ P'=>v=.tup [.f (.int .i64 0),.f (.bool false)]∧P'=cat [[(tid,.cells (iN n0::(bs (bd [n0])++fl)) true)],Q]:=by
 refine al.of_to (Ps:=[[(tid,.cells (iN n0::(bs (bd [n0])++fl)) true)],Q]) kr fun R H0 s0=>?_
 have hm0:ab X X:=ab.rfl
 refine ah 2 (aP 4 (ov 12 (lF n0 0) (go 6 (ov 19 (am (id:=tid) (off:=0) (x:=iN n0) (s0.at 0 rfl) rfl) (ov 20 (eT n0 n0) (ae 1 (iT (ah 2 (rt ?_)))))))))
 exact⟨.inr rfl,_,kr,X,_,aa.fin (Ps:=[_,_]) s0,hm0,rfl,rfl⟩
theorem oc{a M:List (Nat×O)}{A B:List (List (Nat×O))}:(cat [a,M,cat (A++B)]).Perm (cat (a::(A++M::B))):=by
 simp only[cat,List.append_nil]
 exact List.Perm.append_left _ (jQ A B M).symm
theorem eZ.perm{tid n:Nat}{S S':List Nat}{P:List (Nat×O)}(h:eZ tid n S P)(hs:S.Perm S'):eZ tid n S' P:=by
 obtain⟨bk,h1,h2,h3,h4⟩:=h
 exact⟨bk,h1,h2,h3.trans hs,h4⟩
theorem jH{X:Heap}{n tid n0 k:Nat}{S:List Nat}{P0:List (Nat×O)}(h:eZ tid n0 S P0)(hS:S.length<1000)(hlt:k≠n0→k∉S→S.length<3):al 116 [vf (.ptr tid 0),vi k] X n P0 fun v _ P'=>v=.tup [.f (.int .i64 0),.f (.bool false)]∧eZ tid n0 (bp n0 S k) P':=by
 obtain⟨bk,⟨fl,Ps,hp,hb⟩,h3,hfl,hpf⟩:=h
 have hlen:=hb.len
 by_cases hk:k=n0
 ·subst hk
  refine((D1 (Q:=cat Ps) (fl:=fl)).perm ?_).imp fun v X' P' h=>⟨h.1,?_⟩
  ·refine List.Perm.trans ?_ hp.symm
   simp[cat]
  ·rw[bp,if_pos (.inl rfl)]
   refine⟨bk,⟨fl,Ps,?_,hb⟩,h3,hfl,hpf⟩
   rw[h.2]
   simp[cat]
 have hj:pfK k n0<bk.length:=by rw[h3];have:=sP k n0;omega
 obtain⟨l,hl⟩:∃l,bk[pfK k n0]?=some l:=⟨_,List.getElem?_eq_getElem hj⟩
 obtain⟨f,M,A,B,h1,h2,rfl,h4⟩:=hb.at hl
 have hmem:k∈l↔k∈S:=by
  rw[←hfl.mem_iff,List.mem_flatten]
  constructor
  ·exact fun h=>⟨l,List.mem_of_getElem? hl,h⟩
  ·rintro ⟨l',hl',hk'⟩
   obtain⟨j,hj,rfl⟩:=List.getElem_of_mem hl'
   have:=hpf j _ (List.getElem?_eq_getElem hj) k hk'
   subst this
   rw[List.getElem?_eq_getElem hj]at hl
   cases hl
   exact hk'
 have hle:l.length≤S.length:=by
  rw[←hfl.length_eq]
  exact(List.sublist_flatten_of_mem (List.mem_of_getElem? hl)).length_le
 refine((Gu om hk h1 h2 om fun h=>by have:=hlt hk (fun h'=>h (hmem.2 h'));omega).perm (oc.trans hp.symm)).imp fun v X' P' h=>⟨h.1,?_⟩
 obtain⟨_,f2,M2,l2,rfl,hb2,hl2⟩:=h
 refine⟨bk.set (pfK k n0) l2,⟨fl.set (pfK k n0) f2,A++M2::B,oc,h4 _ _ _ hb2⟩,by rw[List.length_set,h3],?_,?_⟩
 ·have hfs:=EL (l':=l2) hl
  rcases hl2 with⟨hkl,hp2⟩|⟨hkl,rfl⟩
  ·rw[bp,if_pos (.inr (hmem.1 hkl))]
   exact((List.perm_append_left_iff l).1 (hfs.trans (hp2.append_right _))).trans hfl
  ·rw[bp,if_neg (fun h=>h.elim hk fun h=>hkl (hmem.2 h))]
   rw[List.append_assoc]at hfs
   exact(((List.perm_append_left_iff l).1 hfs).trans List.perm_append_comm).trans (hfl.append_right _)
 ·intro j l' hj' q hq
  by_cases hjj:pfK k n0=j
  ·subst hjj
   rw[List.getElem?_set_self hj]at hj'
   cases hj'
   rcases hl2 with⟨_,hp2⟩|⟨_,rfl⟩
   ·exact hpf _ _ hl q (hp2.mem_iff.1 hq)
   ·rcases List.mem_append.1 hq with h | h
    ·exact hpf _ _ hl q h
    ·rw[List.mem_singleton.1 h]
  ·rw[List.getElem?_set_ne hjj]at hj'
   exact hpf _ _ hj' q hq
end Go.Proofs.YtkimkgbppegkhaaGreat.Cm
