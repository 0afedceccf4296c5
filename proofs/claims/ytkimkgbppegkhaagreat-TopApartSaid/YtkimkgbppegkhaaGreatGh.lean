/- The clean machine: calls of what is known beforehand, reckoned once: rows, numbers, plain values. · The clean machine: the numbers of a block of one to eight source symbols, its rows, its symbols' parts, reckoned. · The clean machine's walks of symbols: a symbol's parts as a row, the matrix of a block. · The clean machine's walks of blocks: their parts. · The clean machine's walks of symbols: sources, which number, a symbol made of the parts. -/
import Derived.Test.YtkimkgbppegkhaaGreatFnF
import Derived.Test.YtkimkgbppegkhaaGreatFnO
set_option linter.unusedVariables false
set_option linter.unusedSimpArgs false
namespace Go.Proofs.YtkimkgbppegkhaaGreat.Cm
open Go Go.RowKit Go.Proofs.YtkimkgbppegkhaaGreat.Gf
set_option maxRecDepth 1000000
noncomputable def d_(f:Nat)(args:List V):Option (V×T O×Nat):=iJ Tryz.prog nu 100000 f args .leaf 0
/-- no names -/
def nB:F→Bool
 |.ptr ..=>false
 |.sl ..=>false
 |.map ..=>false
 |_=>true
def qz:U→Bool
 |.f x=>nB x
 |.agg cs=>cs.all nB
 |.fn _ cs=>cs.all nB
def kv:V→Bool
 |.u x=>qz x
 |.tup l=>l.all qz
theorem xJ{x:F}(h:nB x=true)(s:Nat→Nat):dY s x=x:=by cases x<;>first | rfl | cases h
theorem xv{l:List F}(h:l.all nB=true)(s:Nat→Nat):l.map (dY s)=l:=by
 induction l with
 |nil=>rfl
 |cons x l ih=>
  rw[List.all_cons,Bool.and_eq_true]at h
  rw[List.map_cons,xJ h.1,ih h.2]
theorem yn{x:U}(h:qz x=true)(s:Nat→Nat):fx s x=x:=by
 cases x with
 |f x=>simp only[fx,xJ h]
 |agg cs=>simp only[fx,xv h]
 |fn g cs=>simp only[fx,xv h]
theorem xA{x:V}(h:kv x=true)(s:Nat→Nat):gx s x=x:=by
 cases x with
 |u x=>simp only[gx,yn h]
 |tup l=>
  simp only[gx]
  congr 1
  have h:l.all qz=true:=h
  induction l with
  |nil=>rfl
  |cons x l ih=>
   rw[List.all_cons,Bool.and_eq_true]at h
   rw[List.map_cons,yn h.1,ih h.2 h.2]
theorem E3{l:List V}(h:l.all kv=true)(s:Nat→Nat):l.map (gx s)=l:=by
 induction l with
 |nil=>rfl
 |cons x l ih=>
  rw[List.all_cons,Bool.and_eq_true]at h
  rw[List.map_cons,xA h.1,ih h.2]
theorem qV{f:Nat}{args:List V}{v:V}{H':T O}{n':Nat}(h:d_ f args=some (v,H',n'))(ha:args.all kv=true){X:Heap}{m:Nat}(ht:ap X m):
 ∃X',aS Tryz.prog f args X m (gx (m+·) v) X' (m+n')∧ab X X'∧ap X' (m+n')∧(∀k o,H'.get k=some o→X' (m+k)=some (fD (m+·) o))∧∀k,X' k≠none→X k≠none∨m≤k:=by
 have h1:=mn cX oT 100000 f args .leaf 0 v H' n' (fun _ _=>rfl) h
 have h2:=h1.closed X m (E3 ha _) (fun k hk _=>ht k hk)
 refine⟨_,h2,fun id o ho=>?_,h2.1.top ht,fun k o ho=>?_,fun k hk=>?_⟩
 ·have hid:=ht.lt ho
  have:cH (m+·) (· - m) H'.get id=none:=by
   unfold cH
   rw[if_neg]
   show¬m+(id-m)=id
   omega
  rw[Heap.or_right this];exact ho
 ·refine Heap.or_left ?_
  unfold cH
  have e:(fun x=>x-m) (m+k)=k:=by show m+k-m=k;omega
  rw[if_pos (by rw[e]),e,ho]
  rfl
 ·rcases h2.1.2 k hk with h3 | h3
  ·exact .inl h3
  ·exact .inr h3.1
/-- a value without names -/
noncomputable def jt(v:V)(o:Option (V×T O×Nat)):Bool:=match o with
 |some (u,_,_)=>j6 u v
 |none=>false
theorem nQ{f:Nat}{args:List V}{v:V}(h:jt v (d_ f args)=true)(hv:kv v=true)(ha:args.all kv=true){X:Heap}{m:Nat}(ht:ap X m):af f args X m fun u _=>u=v:=by
 unfold jt at h
 split at h
 ·rename_i u H' n' he
  have:=mE h
  subst this
  obtain⟨X',h1,h2,h3,_⟩:=qV he ha ht
  rw[xA hv]at h1
  exact⟨_,_,_,h1,h2,h3,rfl⟩
 ·cases h
theorem Gw(s:Nat→Nat)(l:List Nat):(bs l).map (dY s)=bs l:=by
 unfold bs
 rw[List.map_map]
 rfl
theorem wV{G X:Heap}{s:Nat→Nat}{sz:Nat}{f:F}{cs:List F}(hm:∀id o,G id=some o→X (s id)=some (fD s o))(h:aF G sz f=some cs):∃cs',aF X sz (dY s f)=some cs'∧(cs'=cs.map (dY s)∨cs'=cs):=by
 cases f with
 |sl0=>exact⟨cs,h,.inr rfl⟩
 |sl id off sz' len cap=>
  simp only[aF]at h
  split at h
  ·rename_i hsz
   subst hsz
   split at h
   ·rename_i all ex h2
    split at h
    ·rename_i hle
     cases h
     refine⟨_,?_,.inl rfl⟩
     have:=hm _ _ h2
     simp only[fD]at this
     simp only[dY,aF,if_true,this]
     rw[if_pos (by simpa using hle)]
     rw[List.map_take,List.map_drop]
    ·cases h
   ·rename_i rcs elem fz h2
    split at h
    ·rename_i hle
     refine⟨_,?_,.inr rfl⟩
     have:=hm _ _ h2
     simp only[fD]at this
     simp only[dY,aF,if_true,this]
     rw[if_pos hle]
     exact h
    ·cases h
   ·cases h
  ·cases h
 |_=>simp[aF]at h
theorem aB.ren{G X:Heap}{s:Nat→Nat}{f:F}{l:List Nat}(hm:∀id o,G id=some o→X (s id)=some (fD s o))(h:aB G f l):aB X (dY s f) l:=by
 obtain⟨cs',h1,h2⟩:=wV hm h.1
 refine⟨?_,h.2⟩
 rw[h1]
 rcases h2 with rfl | rfl
 ·rw[Gw]
 ·rfl
theorem aw.map_left{α α' β:Type}{R:α→β→Prop}{S:α'→β→Prop}{g:α→α'}(hg:∀a b,R a b→S (g a) b):∀{l:List α} {k:List β},aw R l k→aw S (l.map g) k
 |[],[],_=>trivial
 |a::l,b::k,H=>⟨hg _ _ H.1,aw.map_left hg H.2⟩
 |[],_::_,H=>H.elim
 |_::_,[],H=>H.elim
/-- a list of rows, in a block of its own -/
noncomputable def lj(o:Option (V×T O×Nat)):Option (List (List Nat)):=match o with
 |some (.u (.f (.sl k 0 1 len none)),H',_)=>match Nat.ble (Nat.succ k) dU with
  |true=>match H'.get k with
   |some (.cells cs false)=>match Nat.beq cs.length len with
    |true=>pm (H'.set k none) cs
    |false=>none
   |_=>none
  |false=>none
 |_=>none
theorem vt{f:Nat}{args:List V}{rs:List (List Nat)}(h:lj (d_ f args)=some rs)(ha:args.all kv=true){X:Heap}{m:Nat}(ht:ap X m):
 bF f args X m fun v X' M'=>∃a fs,v=vf a∧M'=a_ a fs∧bO 1 a fs∧aw (aB X') fs rs:=by
 unfold lj at h
 split at h
 ·rename_i k len H' n' he
  split at h
  ·rename_i hk
   split at h
   ·rename_i cs hc
    split at h
    ·rename_i hl
     have hk:k<dU:=Nat.le_of_ble_eq_true hk
     have hl:=Nat.eq_of_beq_eq_true hl
     have hr:=qM h
     obtain⟨X',h1,h2,h3,h4,h5⟩:=qV he ha ht
     have hmk:X (m+k)=none:=ht _ om
     have hx:=h4 k _ hc
     simp only[fD]at hx
     obtain⟨Y,hY⟩:∃Y:Heap,Y=upd X' (m+k) none:=⟨_,rfl⟩
     have hYX:∀id o,Y id=some o→X' id=some o:=fun id o ho=>by
      rw[hY]at ho
      by_cases e:id=m+k
      ·subst e;rw[bG]at ho;cases ho
      ·rw[br _ _ e]at ho;exact ho
     refine⟨_,Y,X',_,[(m+k,.cells (cs.map (dY (m+·))) false)],h1,fun id o ho=>?_,⟨hYX,h3,fun p hp=>?_,sm⟩,.sl (m+k) 0 1 len none,cs.map (dY (m+·)),rfl,rfl,.inr ⟨m+k,len,rfl,by rw[List.length_map];omega⟩,hr.map_left fun a b hab=>hab.ren fun id o ho=>?_⟩
     ·rw[hY,br]
      ·exact h2 _ _ ho
      ·rintro rfl;rw[hmk]at ho;cases ho
     ·simp at hp
      subst hp
      exact⟨hx,by rw[hY];exact bG _ _ _⟩
     ·rw[T.get_set _ _ _ hk]at ho
      split at ho
      ·cases ho
      ·rename_i hne
       rw[hY,br _ _ om]
       exact h4 _ _ ho
    ·cases h
   ·cases h
  ·cases h
 ·cases h
/-- whole numbers, as they lie in cells -/
def is(l:List Nat):List F:=l.map fun(x:Nat)=>F.int .i64 (x:Int)
theorem jd{l:List Nat}{i x:Nat}(h:l[i]?=some x):(is l)[i]?=some (.int .i64 (x:Int)):=by simp[is,h]
theorem dI(l:List Nat):(is l).length=l.length:=by simp[is]
theorem GU(s:Nat→Nat)(l:List Nat):(is l).map (dY s)=is l:=by
 unfold is
 rw[List.map_map]
 rfl
def bo(H:Heap)(f:F)(l:List Nat):Prop:=aF H 1 f=some (is l)
theorem bo.mono{H H':Heap}(hm:ab H H'){f:F}{l:List Nat}(h:bo H f l):bo H' f l:=aO hm h
theorem bo.lenA{H:Heap}{f:F}{l:List Nat}(h:bo H f l):Cm.cd f=some l.length:=by
 have:=cQ h
 rw[dI]at this
 exact this
theorem bo.sl{H:Heap}{f:F}{l:List Nat}(h:bo H f l)(h0:0<l.length):∃id off cap,f=.sl id off 1 l.length cap∧∀(i x:Nat),l[i]?=some x→cn H id (off+i) (.int .i64 (x:Int)):=by
 obtain⟨id,off,cap,h1,h2⟩:=cW h (by rw[dI];exact h0)
 rw[dI]at h1
 exact⟨id,off,cap,h1,fun i x hx=>h2 i _ (jd hx)⟩
noncomputable def tH:List F→Option (List Nat)
 |[]=>some []
 |x::r=>bC (eD .i64 9223372036854775807 (vf x)) fun a=>bC (tH r) fun l=>some (a::l)
theorem wz:∀{cs:List F} {l:List Nat},tH cs=some l→cs=is l
 |[],l,h=>by cases h;rfl
 |x::r,l,h=>by
  obtain⟨a,h1,h2⟩:=b9 h
  obtain⟨l',h3,h4⟩:=b9 h2
  cases h4
  have e1:=wz h3
  obtain⟨g1,g2⟩:=eH h1
  cases g1
  rw[e1];rfl
noncomputable def lD(o:Option (V×T O×Nat)):Option (List Nat):=match o with
 |some (.u (.f x),H',_)=>bC (aF H'.get 1 x) tH
 |_=>none
theorem uA{f:Nat}{args:List V}{l:List Nat}(h:lD (d_ f args)=some l)(ha:args.all kv=true){X:Heap}{m:Nat}(ht:ap X m):af f args X m fun v X'=>∃g,v=vf g∧bo X' g l:=by
 unfold lD at h
 split at h
 ·rename_i x H' n' he
  obtain⟨cs,h1,h2⟩:=b9 h
  have:=wz h2
  subst this
  obtain⟨X',g1,g2,g3,g4,_⟩:=qV he ha ht
  obtain⟨cs',k1,k2⟩:=wV g4 h1
  refine⟨_,_,_,g1,g2,g3,_,rfl,?_⟩
  unfold bo
  rw[k1]
  rcases k2 with rfl | rfl
  ·rw[GU]
  ·rfl
 ·cases h
def sK(k:Nat):Nat:=2+k/8
def wK(k:Nat):Nat:=k+sK k
def lK(k:Nat):Nat:=wK k+2
theorem lM{k:Nat}(h:k≤8):lK k≤13∧k<lK k∧sK k+2≤lK k∧2≤sK k∧sK k≤3:=by unfold lK wK sK;omega
abbrev pF(k:Nat):List F:=[.int .i64 ((k:Nat):Int),.int .i64 ((sK k:Nat):Int),.int .i64 2]
abbrev pV(k:Nat):V:=.u (.agg (pF k))
noncomputable def jX(p:Nat→Bool):Bool:=p 1&&p 2&&p 3&&p 4&&p 5&&p 6&&p 7&&p 8
theorem jK{p:Nat→Bool}(h:jX p=true){k:Nat}(h1:1≤k)(h8:k≤8):p k=true:=by
 unfold jX at h
 simp only[Bool.and_eq_true]at h
 obtain⟨⟨⟨⟨⟨⟨⟨a1,a2⟩,a3⟩,a4⟩,a5⟩,a6⟩,a7⟩,a8⟩:=h
 have:k=1∨k=2∨k=3∨k=4∨k=5∨k=6∨k=7∨k=8:=by omega
 rcases this with rfl | rfl | rfl | rfl | rfl | rfl | rfl | rfl<;>assumption
theorem Et:jX (fun k=>jt (.tup [.agg (pF k),.f (.int .i64 0)]) (d_ 42 [vi k]))=true:=by kernel_rfl
theorem Fz:jX (fun k=>jt (vi (lK k)) (d_ 68 [pV k]))=true:=by kernel_rfl
section
variable {X:Heap} {n k:Nat}
theorem xD(h1:1≤k)(h8:k≤8)(ht:ap X n):af 42 [vi k] X n fun v _=>v=.tup [.agg (pF k),.f (.int .i64 0)]:=nQ (jK Et h1 h8) rfl rfl ht
theorem sE(h1:1≤k)(h8:k≤8)(ht:ap X n):af 68 [pV k] X n fun v _=>v=vi (lK k):=nQ (jK Fz h1 h8) rfl rfl ht
end
noncomputable def tT(r:List Nat):Bool:=r.all fun x=>Nat.ble x 255
theorem Fj{r:List Nat}(h:tT r=true):B8 r:=fun x hx=>by
 unfold tT at h
 rw[List.all_eq_true]at h
 have:=Nat.le_of_ble_eq_true (h x hx)
 omega
noncomputable def pL(c N:Nat)(o:Option (List (List Nat))):Bool:=match o with
 |some rs=>Nat.beq rs.length c&&rs.all fun r=>Nat.beq r.length N&&tT r
 |none=>false
theorem nM{c N:Nat}{o:Option (List (List Nat))}(h:pL c N o=true):∃rs,o=some rs∧Mx c N rs:=by
 unfold pL at h
 split at h
 ·rename_i rs
  rw[Bool.and_eq_true,List.all_eq_true]at h
  refine⟨rs,rfl,Nat.eq_of_beq_eq_true h.1,fun r hr=>?_⟩
  have:=h.2 r hr
  rw[Bool.and_eq_true]at this
  exact⟨Nat.eq_of_beq_eq_true this.1,Fj this.2⟩
 ·cases h
noncomputable def lowR(k:Nat):List (List Nat):=(lj (d_ 96 [pV k])).getD []
noncomputable def highR(k:Nat):List (List Nat):=(lj (d_ 97 [pV k])).getD []
theorem wk:jX (fun k=>pL (sK k) (lK k) (lj (d_ 96 [pV k])))=true:=by kernel_rfl
theorem vg:jX (fun k=>pL 2 (lK k) (lj (d_ 97 [pV k])))=true:=by kernel_rfl
section
variable {X:Heap} {n k:Nat}
theorem mT(h1:1≤k)(h8:k≤8):Mx (sK k) (lK k) (lowR k):=by
 obtain⟨rs,h2,h3⟩:=nM (jK wk h1 h8)
 unfold lowR
 rw[h2]
 exact h3
theorem mK(h1:1≤k)(h8:k≤8):Mx 2 (lK k) (highR k):=by
 obtain⟨rs,h2,h3⟩:=nM (jK vg h1 h8)
 unfold highR
 rw[h2]
 exact h3
theorem Fi(h1:1≤k)(h8:k≤8)(ht:ap X n):bF 96 [pV k] X n fun v X' M'=>∃a fs,v=vf a∧M'=a_ a fs∧bO 1 a fs∧aw (aB X') fs (lowR k):=by
 obtain⟨rs,h2,h3⟩:=nM (jK wk h1 h8)
 have:lowR k=rs:=by unfold lowR;rw[h2];rfl
 rw[this]
 exact vt h2 rfl ht
theorem DE(h1:1≤k)(h8:k≤8)(ht:ap X n):bF 97 [pV k] X n fun v X' M'=>∃a fs,v=vf a∧M'=a_ a fs∧bO 1 a fs∧aw (aB X') fs (highR k):=by
 obtain⟨rs,h2,h3⟩:=nM (jK vg h1 h8)
 have:highR k=rs:=by unfold highR;rw[h2];rfl
 rw[this]
 exact vt h2 rfl ht
end
/-- a symbol's parts: unlike, each one of the block's, one at least -/
noncomputable def partsN(k esi:Nat):List Nat:=(lD (d_ 71 [pV k,vf (.int .i64 0),vi esi])).getD []
noncomputable def pt:List Nat→Bool
 |[]=>true
 |x::l=>l.all (fun y=>not (Nat.beq x y))&&pt l
theorem ux:∀{l:List Nat},pt l=true→l.Nodup
 |[],_=>List.nodup_nil
 |x::l,h=>by
  simp only[pt,Bool.and_eq_true,List.all_eq_true]at h
  refine List.nodup_cons.2 ⟨fun hx=>?_,ux h.2⟩
  have:=h.1 x hx
  simp at this
noncomputable def gQ(k esi:Nat):Bool:=match lD (d_ 71 [pV k,vf (.int .i64 0),vi esi])with
 |some l=>Nat.ble 1 l.length&&Nat.ble l.length 100&&l.all (fun x=>Nat.ble (x+1) (lK k))&&pt l
 |none=>false
structure gc(k esi:Nat):Prop where
 ev:lD (d_ 71 [pV k,vf (.int .i64 0),vi esi])=some (partsN k esi)
 one:1≤(partsN k esi).length
 few:(partsN k esi).length≤100
 lt:∀x∈partsN k esi,x<lK k
 nod:(partsN k esi).Nodup
theorem i6{k esi:Nat}(h:gQ k esi=true):gc k esi:=by
 unfold gQ at h
 split at h
 ·rename_i l hl
  have e:partsN k esi=l:=by unfold partsN;rw[hl];rfl
  simp only[Bool.and_eq_true,List.all_eq_true]at h
  obtain⟨⟨⟨h1,h2⟩,h3⟩,h4⟩:=h
  refine⟨by rw[e];exact hl,by rw[e];exact Nat.le_of_ble_eq_true h1,by rw[e];exact Nat.le_of_ble_eq_true h2,fun x hx=>?_,by rw[e];exact ux h4⟩
  rw[e]at hx
  exact Nat.le_of_ble_eq_true (h3 x hx)
 ·cases h
theorem vm{X:Heap}{n k esi:Nat}(h:gc k esi)(ht:ap X n):af 71 [pV k,vf (.int .i64 0),vi esi] X n fun v X'=>∃g,v=vf g∧bo X' g (partsN k esi):=uA h.ev rfl ht
/-- a row with ones -/
def gX(N:Nat)(l:List Nat):List Nat:=l.foldl (fun r x=>r.set x 1) (zs N)
theorem iC(N:Nat)(l:List Nat):Rw N (gX N l):=by
 have:∀(l:List Nat) (r:List Nat),Rw N r→Rw N (l.foldl (fun r x=>r.set x 1) r):=by
  intro l
  induction l with
  |nil=>intro r h;exact h
  |cons x l ih=>
   intro r h
   refine ih _ ⟨by rw[List.length_set];exact h.1,fun y hy=>?_⟩
   rcases List.mem_or_eq_of_mem_set hy with h1 | rfl
   ·exact h.2 y h1
   ·omega
 exact this l _ (Rw.zs N)
theorem C2(N:Nat)(l:List Nat)(x:Nat):gX N (l++[x])=(gX N l).set x 1:=by simp[gX,List.foldl_append]
theorem AY{l:List Nat}{i:Nat}(hi:i<l.length):aJ (bs l) (0+i*1) [.int .u8 1]=bs (l.set i 1):=by
 rw[iw (by rw[bg];exact hi)]
 unfold bs
 rw[List.map_set]
 rfl
theorem Ey{X:Heap}{n:Nat}{k esi:Nat}(h1:1≤k)(h8:k≤8)(hp:gc k esi)(ht:ap X n):af 98 [.u (.agg [iN k,iN (sK k),.int .i64 2]),vf (.int .i64 0),vi esi] X n fun v X'=>∃g,v=vf g∧aB X' g (gX (lK k) (partsN k esi)):=by
 refine af.of_to kr ?_
 have s0:=aa.ini ht
 have hm0:ab X X:=ab.rfl
 refine ag ?_
 obtain⟨H1,s2,J3⟩:=cu s0 (.cells [iN k,iN (sK k),.int .i64 2] true)
 refine ov 3 (J3 _ _ (vf (.ptr (n) (0)))) (ae 1 (ag (ov 11 (la 0 3 [iN k,iN (sK k),.int .i64 2] (s2.at 0 rfl)) (go 2 ?_))))
 obtain⟨_,X4,n5,hc6,hm7,ht8,⟨pg,rfl,hpg⟩⟩:=(vm hp s2.topX:af 71 [.u (.agg [iN k,iN (sK k),.int .i64 2]),vf (.int .i64 0),vi esi] X (n+1) _)
 obtain⟨H9,hc10,s⟩:=s2.call hc6 hm7 ht8
 have hm0:=hm0.tr hm7
 refine ov 14 (jC hc10) ?_
 have hone:=hp.one
 have hfew:=hp.few
 have hL:=(lM h8).1
 obtain⟨pid,poff,pcap,rfl,hpa0⟩:=hpg.sl om
 refine ae 1 (aP 1 (ov 16 (ln ((partsN k esi).length)) (ov 17 (eF ((partsN k esi).length) 0) (aj (ar (nx (ag (ov 18 (la 0 3 [iN k,iN (sK k),.int .i64 2] (s.at 0 rfl)) ?_))))))))
 obtain⟨_,W,n1,hc14,hm15,ht16,rfl⟩:=(sE h1 h8 s.topX:af 68 [.u (.agg [iN k,iN (sK k),.int .i64 2])] X4 (n5) _)
 obtain⟨_,hc18,s⟩:=s.call hc14 hm15 ht16
 have hm0:=hm0.tr hm15
 have hpg:=hpg.mono hm15
 refine ov 19 (jC hc18) ?_
 obtain⟨_,s,J⟩:=sU (a:=lK k) s ⟨1,1,[.int .u8 0]⟩ (by simp only;omega) (cs:=bs (zs (lK k))) (mz _)
 refine ov 20 (J _ _) ?_
 have hpa:∀(j x:Nat),(partsN k esi)[j]?=some x→cn W pid (poff+j) (.int .i64 (x:Int)):=fun j x h=>by
  obtain⟨id2,off2,cap2,e,h2⟩:=hpg.sl om
  cases e
  exact h2 j x h
 have sd:=s.del 1
 refine ae 1 (aP 1 (ov 22 (ln ((partsN k esi).length)) (ae 1 (bk 0 (To.loop kr (aC.for ((partsN k esi).length) (fun i A Hq nq=>∃(Y:Heap),aL A [(8,vf (.sl (n1) (0) 1 (lK k) none)),(21,vf (.sl (pid) (poff) 1 ((partsN k esi).length) pcap)),(22,vf (iN ((partsN k esi).length))),(23,vi i)]∧aa Y Hq nq [(n1,.cells (bs (gX (lK k) ((partsN k esi).take i))) true)]∧ab X Y∧∀(j x:Nat),(partsN k esi)[j]?=some x→cn Y pid (poff+j) (.int .i64 (x:Int))) ⟨W,az (ts:=[8,21,22,23]) kr,sd,(hm0),(hpa)⟩ (fun i A H n2 hi hI=>?_) (fun A H n2 hI=>?_)))))))
 ·obtain⟨Y,hT,s,hm0,hpa⟩:=hI
  refine To.keep _ ?_ hT.sub
  have hx:(partsN k esi)[i]?=some (partsN k esi)[i]:=List.getElem?_eq_getElem hi
  have hlt:=hp.lt _ (List.getElem_mem hi)
  refine ag (ov 24 (lT i ((partsN k esi).length)) (aQ (aM (nx (aD 1 (ag (ov 25 (ix pid poff 1 ((partsN k esi).length) i) (ov 26 (lx pid (poff+i*1) (iN ((partsN k esi)[i])) (by rw[Nat.mul_one];exact(hpa i _ hx).mono (s.mono _))) (ae 1 (rg (go 2 (ov 29 (ix n1 0 1 (lK k) ((partsN k esi)[i])) ?_))))))))))))
  obtain⟨H,s,J⟩:=dE (off:=0+((partsN k esi)[i])*1) (new:=[.int .u8 1]) (cs':=bs ((gX (lK k) ((partsN k esi).take i)).set (partsN k esi)[i] 1)) s 0 rfl (by rw[bg,(iC _ _).1];simp;omega) (AY (by rw[(iC _ _).1];exact hlt))
  have s:aa Y H (n2) [(n1,.cells (bs ((gX (lK k) ((partsN k esi).take i)).set (partsN k esi)[i] 1)) true)]:=s
  refine oe (J _ _) (aj (rg (ov 30 (aN i 1) (aR 1 ?_))))
  exact .inl ⟨rfl,Y,az (ts:=[8,21,22,23]) kr,(by rw[e_ hi,C2];exact s),(hm0),(hpa)⟩
 ·obtain⟨Y,hT,s,hm0,hpa⟩:=hI
  refine To.keep _ ?_ hT.sub
  refine ag (ov 24 (au (cr .i64 (x:=((((partsN k esi).length):Nat):Int)) (y:=(((partsN k esi).length:Nat):Int)) sm)) (aj ?_))
  rw[List.take_length]at s
  refine sq (iF (To.exit 0 kr ?_))
  refine⟨sm,?_⟩
  show To Tryz.prog 98 [1,1,1,1,1] _ _ _ _
  refine ah 2 (rt ?_)
  exact⟨.inr rfl,vf (.sl (n1) 0 1 (lK k) none),kr,_,_,s.frz.1,hm0.tr s.frz.2,_,rfl,bf (bG _ _ _) (by rw[bg,(iC _ _).1];simp),(iC _ _).2,by rw[(iC _ _).1];omega⟩
noncomputable abbrev cO(k esi:Nat):List Nat:=gX (lK k) (partsN k esi)
/-- a block's rows -/
noncomputable def dB(k:Nat)(es:List Nat):List (List Nat):=lowR k++highR k++es.map (cO k)
theorem k7{k:Nat}(h1:1≤k)(h8:k≤8)(es:List Nat):Mx (sK k+2+es.length) (lK k) (dB k es):=by
 have a:=mT h1 h8
 have b:=mK h1 h8
 refine⟨by unfold dB;simp[a.1,b.1];omega,fun r hr=>?_⟩
 unfold dB at hr
 rcases List.mem_append.1 hr with h | h
 ·rcases List.mem_append.1 h with h | h
  ·exact a.2 r h
  ·exact b.2 r h
 ·obtain⟨e,_,rfl⟩:=List.mem_map.1 h
  exact iC _ _
theorem A9{X:Heap}{n:Nat}{k:Nat}{fe:F}(es:List Nat)(h1:1≤k)(h8:k≤8)(he:bo X fe es)(hps:∀e∈es,gc k e)(hlt:es.length<10000)(ht:ap X n):af 69 [.u (.agg [iN k,iN (sK k),.int .i64 2]),vf (.int .i64 0),vf (fe)] X n fun v X'=>∃g,v=vf g∧bJ X' g (dB k es):=by
 refine af.of_to kr ?_
 have s0:=aa.ini ht
 have hm0:ab X X:=ab.rfl
 have hL:=lM h8
 refine ag ?_
 obtain⟨_,s,J⟩:=cu s0 (.cells [iN k,iN (sK k),.int .i64 2] true)
 refine ov 3 (J _ _ (vf (.ptr (n) (0)))) (ae 1 (sq (To.draw [0,1,2,3,4,5] cX kr kr (Sd.read (some 11) (n) kr kr kr trivial (aG (off:=0) (sz:=3) (c:=[iN k,iN (sK k),.int .i64 2]) (s.at 0 rfl) sm rfl kr) ?_))))
 obtain⟨_,W,_,n1,_,hc37,hm38,s1,⟨a1,fs1,rfl,rfl,ha1,hA1⟩⟩:=(Fi h1 h8 s.topX:bF 96 [.u (.agg [iN k,iN (sK k),.int .i64 2])] X (n+1) _)
 obtain⟨H,hc41,s2⟩:=s.callA hc37 hm38 s1
 have hm0:=hm0.tr hm38
 have he:=he.mono hm38
 have s3:aa W H n1 ([(n,.cells [iN k,iN (sK k),.int .i64 2] true)]++(a_ (a1) (fs1)++[])):=by simpa using s2
 refine Sd.eff (some 12) kr kr (b_ kr hc41 kr) ⟨.inl kr,trivial⟩ (Sd.read (some 13) (n) kr kr kr ⟨ke (s.at 0 rfl) (s3.at 0 rfl),trivial⟩ (aG (off:=0) (sz:=3) (c:=[iN k,iN (sK k),.int .i64 2]) (s3.at 0 rfl) sm rfl kr) ?_)
 obtain⟨_,W,_,n2,_,hc48,hm49,s4,⟨a2,fs2,rfl,rfl,ha2,hA2⟩⟩:=(DE h1 h8 s3.topX:bF 97 [.u (.agg [iN k,iN (sK k),.int .i64 2])] W (n1) _)
 obtain⟨H,hc52,s5⟩:=s3.callA hc48 hm49 s4
 have hm0:=hm0.tr hm49
 have he:=he.mono hm49
 have hA1:=hA1.mono fun _ _ q=>q.mono hm49
 have s6:aa W H n2 ([(n,.cells [iN k,iN (sK k),.int .i64 2] true)]++(a_ (a1) (fs1)++(a_ (a2) (fs2)++[]))):=by simpa using s5
 refine Sd.eff (some 14) kr kr (b_ kr hc52 kr) ⟨.inl kr,.inl kr,trivial⟩ ?_
 obtain⟨W,m,s7,hrow2,_⟩:=aa.acc (sz:=1) (M1:=([(n,.cells [iN k,iN (sK k),.int .i64 2] true)]++a_ (a1) (fs1))) (M2:=[]) (a:=a2) (fs:=fs2) (by simpa using s6) ha2
 have hm0:=hm0.tr m
 have he:=he.mono m
 have hA1:=hA1.mono fun _ _ q=>q.mono m
 have hA2:=hA2.mono fun _ _ q=>q.mono m
 have s7:aa W H (n2) ([(n,.cells [iN k,iN (sK k),.int .i64 2] true)]++(a_ (a1) (fs1)++[])):=by simpa using s7
 have hl1:fs1.length=sK k:=by rw[←hA1.length];exact(mT h1 h8).1
 have hl2:fs2.length=2:=by rw[←hA2.length];exact(mK h1 h8).1
 obtain⟨a3,_,_,ha61,s8,J⟩:=eW (sz:=1) (bytes:=24) (x:=a2) (fs:=fs1) (new:=fs2) (M1:=[(n,.cells [iN k,iN (sK k),.int .i64 2] true)]) s7 ha1 (aO s7.mono hrow2) (cQ hrow2) om om
 refine Sd.eff (some 15) kr kr (J _ _ kr) ⟨.inl kr,.inl kr,trivial⟩ ?_
 have hAB:=aw.append hA1 hA2
 refine Sd.go (L:=[]) [5] kr (Sd.done ?_)
 show To Tryz.prog 69 [1,1] _ _ _ _
 refine aP 1 (ov 17 (lv es.length he.lenA) (ae 1 (bk 0 (To.loop kr (aC.for (es.length) (fun i A Hq nq=>∃(Y:Heap) (a:F) (fs:List F),aL A [(1,vf (.int .i64 0)),(3,vf (.ptr (n) (0))),(7,vf (a)),(16,vf (fe)),(17,vi es.length),(18,vi i)]∧aa Y Hq nq ([(n,.cells [iN k,iN (sK k),.int .i64 2] true)]++(a_ (a) (fs)++[]))∧ab X Y∧bo Y fe es∧bO 1 a fs∧aw (aB Y) fs (lowR k++highR k++(es.take i).map (cO k))) ⟨W,a3,(fs1++fs2),az (ts:=[1,3,7,16,17,18]) kr,s8,(hm0),(he),(ha61),(by rw[List.take_zero,List.map_nil,List.append_nil];exact hAB)⟩ (fun i A H n3 hi hI=>?_) (fun A H n3 hI=>?_))))))
 ·obtain⟨Y,a,fs,hT,s9,hm0,he,ha,hA⟩:=hI
  refine To.keep _ ?_ hT.sub
  obtain⟨eid,eoff,ecap,rfl,hea⟩:=he.sl om
  have hx:es[i]?=some es[i]:=List.getElem?_eq_getElem hi
  have hp:=hps _ (List.getElem_mem hi)
  have hlf:fs.length=sK k+2+i:=by have:=hA.length;rw[List.length_append,List.length_append,(mT h1 h8).1,(mK h1 h8).1,List.length_map,List.length_take]at this;omega
  refine ag (ov 19 (lT i es.length) (aQ (aM (nx (aD 1 (ag (ov 20 (ix eid eoff 1 es.length i) (ov 21 (lx eid (eoff+i*1) (iN es[i]) (by rw[Nat.mul_one];exact(hea i _ hx).mono (s9.mono _))) (ae 1 (ag (ov 22 (la 0 3 [iN k,iN (sK k),.int .i64 2] (s9.at 0 rfl)) (go 2 ?_))))))))))))
  obtain⟨_,_,n4,hc69,hm70,ht71,⟨g,rfl,hg⟩⟩:=(Ey h1 h8 hp s9.topX:af 98 [.u (.agg [iN k,iN (sK k),.int .i64 2]),vf (.int .i64 0),vf (iN es[i])] Y (n3) _)
  obtain⟨_,hc73,s10⟩:=s9.call hc69 hm70 ht71
  have hm0:=hm0.tr hm70
  have he:=he.mono hm70
  have hA:=hA.mono fun _ _ q=>q.mono hm70
  refine ov 25 (jC hc73) (ae 1 (aP 1 (ov 27 (lv ((cO k es[i]).length) hg.lenA) ?_)))
  have hgl:(cO k es[i]).length=lK k:=(iC _ _).1
  refine ov 28 (eF ((cO k es[i]).length) 0) (aj (ar (nx (rg (go 2 ?_)))))
  obtain⟨W,_,s11,m1,f,J⟩:=bj s10 (.cells [g] true)
  have hm0:=hm0.tr m1
  have he:=he.mono m1
  have hA:=hA.mono fun _ _ q=>q.mono m1
  have hg:=hg.mono m1
  refine ov 31 (J _ _ (vf (.sl (n4) (0) 1 (1) none))) ?_
  obtain⟨_,_,_,ha84,s12,J⟩:=eW (sz:=1) (bytes:=24) (x:=.sl (n4) (0) 1 (1) none) (fs:=fs) (new:=[g]) (M1:=[(n,.cells [iN k,iN (sK k),.int .i64 2] true)]) s11 ha (bf (s11.mono _ _ f) rfl) (rfl) om om
  refine ov 32 (J _ _) (ae 1 (rg (ov 33 (aN i 1) (aR 1 ?_))))
  exact .inl ⟨rfl,W,_,_,az (ts:=[1,3,7,16,17,18]) kr,s12,(hm0),(he),(ha84),(by rw[e_ hi,List.map_append,←List.append_assoc];exact hA.snoc hg)⟩
 ·obtain⟨Y,a,fs,hT,s13,hm0,he,ha,hA⟩:=hI
  refine To.keep _ ?_ hT.sub
  refine ag (ov 19 (au (cr .i64 (x:=(((es.length):Nat):Int)) (y:=((es.length:Nat):Int)) sm)) (aj ?_))
  obtain⟨W,m2,s14,hrow,_⟩:=aa.acc (sz:=1) (M1:=[(n,.cells [iN k,iN (sK k),.int .i64 2] true)]) (M2:=[]) (a:=a) (fs:=fs) (by simpa using s13) ha
  have hm0:=hm0.tr m2
  have hA:=hA.mono fun _ _ q=>q.mono m2
  have s14:aa W H (n3) [(n,.cells [iN k,iN (sK k),.int .i64 2] true)]:=by simpa using s14
  refine sq (iF (To.exit 0 kr ?_))
  refine⟨sm,?_⟩
  show To Tryz.prog 69 [1,1,1] _ _ _ _
  refine aP 1 (ov 35 (lF 0 0) (go 2 (ov 38 (gF 0 255) (ae 1 (ar (nx (ah 2 (rt ?_))))))))
  exact⟨.inr rfl,_,kr,W,_,s14,hm0,_,rfl,_,hrow,by rw[List.take_length]at hA;exact hA⟩
theorem HN{X H:Heap}{n sz bytes m id len:Nat}{M:List (Nat×O)}{x:F}{cs new:List F}(s:aa X H n ((id,.cells cs true)::M))(hl:cs.length=len*sz)(hx:aF H sz x=some new)(hm:cd x=some m)(hsz:0<sz)(hb:(len+m)*bytes*2≤140737488355328):
 ∃a X' H' n',aa X' H' n' M∧ab X X'∧aF X' sz a=some (cs++new)∧∀(o:Oper) (r:Operand→Option V) (_:jA Tryz.prog o r=some (sz,bytes,.sl id 0 sz len none,x):=by kernel_rfl),aE Tryz.prog o r H n (vf a) H' n':=by
 have hid:=s.at 0 rfl
 have hnew:new.length=m*sz:=by
  obtain⟨m',h1,h2⟩:=wH hx
  rw[hm]at h1;cases h1;exact h2
 obtain⟨s1,m1⟩:=s.frz
 by_cases h0:m=0
 ·have hn0:new=[]:=List.eq_nil_of_length_eq_zero (by rw[hnew,h0];simp)
  subst hn0
  refine⟨.sl id 0 sz len none,_,H,n,s1,m1,by rw[List.append_nil];exact bf (bG _ _ _) hl.symm,fun o r hk=>?_⟩
  have:=fB (n:=n) hx hm (ef:=(vf (.sl id 0 sz (len+m) none),[(id,some (.cells (aJ cs (0+len*sz) []) true))],0)) (bytes:=bytes) (s:=.sl id 0 sz len none) (by
   simp only[df,if_true,hid]
   rw[if_pos om,if_pos hb,if_pos (by rw[h0];simp;omega)]) hk
  rw[nT,h0]at this
  simp only[bL,Nat.add_zero]at this
  rw[oh hid]at this
  exact this
 ·have hmpos:0<m*sz:=Nat.mul_pos om hsz
  refine⟨.sl n 0 sz (len+m) none,_,_,n+1,s1.newF (.cells (cs++new) false),m1.tr (s1.newX _),bf (bG _ _ _) (by rw[List.length_append,hl,hnew,Nat.add_mul]),fun o r hk=>?_⟩
  have:=fB (n:=n) hx hm (ef:=(vf (.sl n 0 sz (len+m) none),[(n,some (.cells ((cs.drop 0).take (len*sz)++new) false))],1)) (bytes:=bytes) (s:=.sl id 0 sz len none) (by
   have e1:¬(0+(len+m)*sz≤cs.length):=by rw[Nat.add_mul];omega
   simp only[df,if_true,hid]
   rw[if_pos om,if_pos hb,if_neg e1]) hk
  rw[List.drop_zero,List.take_of_length_le om]at this
  exact this
theorem qJ(x:F):∀(k:Nat),ci [x] k=List.replicate k x
 |0=>rfl
 |k+1=>by rw[ci,qJ x k];rfl
theorem v7{X:Heap}:∀(k:Nat),aw (aB X) (List.replicate k F.sl0) (List.replicate k [])
 |0=>trivial
 |k+1=>⟨⟨rfl,fun x hx=>(by cases hx),sm⟩,v7 k⟩
theorem y_{len N:Nat}{rs:List (List Nat)}(h:Mx len N rs):rs.map (fun r=>cE N [r])=rs:=by
 conv=>rhs;rw[←List.map_id rs]
 exact List.map_congr_left fun r hr=>CR (h.2 r hr)
theorem Ep(k N:Nat):(List.replicate k []).map (fun r=>cE N [r])=List.replicate k (zs N):=by
 rw[List.map_replicate]
 congr 1
 exact oo _
/-- what stands beside a block's rows -/
def eS(k N:Nat)(ds:List (List Nat)):List (List Nat):=List.replicate (sK k+2) (zs N)++ds
theorem lh{k N:Nat}{es:List Nat}{ds:List (List Nat)}(h:Mx es.length N ds):Mx (sK k+2+es.length) N (eS k N ds):=⟨by unfold eS;simp[h.1],fun r hr=>by
 unfold eS at hr
 rcases List.mem_append.1 hr with h1 | h1
 ·rw[List.eq_of_mem_replicate h1];exact Rw.zs N
 ·exact h.2 r h1⟩
theorem uE{X:Heap}{n:Nat}{k N:Nat}{fe fd:F}(es:List Nat)(ds:List (List Nat))(h1:1≤k)(h8:k≤8)(he:bo X fe es)(hps:∀e∈es,gc k e)(hlt:es.length<10000)(hd:bJ X fd ds)(hds:Mx es.length N ds)(hN0:0<N)(hN:N≤1000)(ht:ap X n):af 46 [.u (.agg [iN k,iN (sK k),.int .i64 2]),vf (.int .i64 0),vi N,vf (fe),vf (fd)] X n fun v X'=>∃g e,v=.tup [.f g,.f (.int .i64 e)]∧((e=0∧∃out,bJ X' g out∧dV (lK k) N (sK k+2+es.length) (dB k es) (eS k N ds) out)∨(e=4∧g=.sl0∧fO (lK k) N (sK k+2+es.length) (dB k es) (eS k N ds))):=by
 refine af.of_to kr ?_
 have s0:=aa.ini ht
 have hm0:ab X X:=ab.rfl
 obtain⟨fds,hdr,hdA⟩:=hd
 have hfl:fds.length=es.length:=by rw[←hdA.length];exact hds.1
 have hL:=lM h8
 have hdl:=hds.1
 refine ag ?_
 obtain⟨H1,s2,J3⟩:=cu s0 (.cells [iN k,iN (sK k),.int .i64 2] true)
 refine ov 5 (J3 _ _ (vf (.ptr (n) (0)))) (ae 2 (ai 1 (ov 14 (am (off:=1) (x:=iN (sK k)) (s2.at 0 rfl) kr) (go 1 (ov 16 (am (off:=2) (x:=.int .i64 2) (s2.at 0 rfl) kr) (ov 17 (aN (sK k) 2) ?_))))))
 obtain⟨H4,s5,J6⟩:=sU (a:=sK k+2) s2 ⟨1,24,[.sl0]⟩ (by simp only;omega) (cs:=List.replicate (sK k+2) F.sl0) (qJ _ _)
 refine ov 18 (J6 _ _) (ae 1 (sq (To.draw [0,1,3,4,5,6,7,8,9,2,10,11,12,13,14] cX kr kr (Sd.read (some 19) (n) kr kr kr trivial (aG (off:=0) (sz:=3) (c:=[iN k,iN (sK k),.int .i64 2]) (s5.at 1 rfl) sm rfl kr) ?_))))
 obtain⟨_,X7,n8,hc9,hm10,ht11,rfl⟩:=(sE h1 h8 s5.topX:af 68 [.u (.agg [iN k,iN (sK k),.int .i64 2])] X (n+1+1) _)
 obtain⟨_,hc13,s⟩:=s5.call hc9 hm10 ht11
 have hm0:=hm0.tr hm10
 have hdr:=aO hm10 hdr
 have he:=he.mono hm10
 have hdA:=hdA.mono fun _ _ q=>q.mono hm10
 refine Sd.eff (some 20) kr kr (b_ kr hc13 kr) ⟨.inl kr,trivial⟩ (Sd.read (some 22) (n) kr kr kr ⟨ke (s5.at 1 rfl) (s.at 1 rfl),trivial⟩ (aG (off:=0) (sz:=3) (c:=[iN k,iN (sK k),.int .i64 2]) (s.at 1 rfl) sm rfl kr) (Sd.go (L:=[6,7,8,9,2,10,11,12,13,14]) [4,5] kr ?_))
 obtain⟨_,_,_,hc17,hm18,ht19,⟨gm,rfl,hgm⟩⟩:=(A9 es h1 h8 he hps hlt s.topX:af 69 [.u (.agg [iN k,iN (sK k),.int .i64 2]),vf (.int .i64 0),vf (fe)] X7 (n8) _)
 obtain⟨_,hc21,s⟩:=s.call hc17 hm18 ht19
 have hm0:=hm0.tr hm18
 have hdr:=aO hm18 hdr
 have hdA:=hdA.mono fun _ _ q=>q.mono hm18
 refine Sd.eff (some 25) kr kr (b_ kr hc21 kr) ⟨.inl kr,.inl kr,trivial⟩ (Sd.go (L:=[9,2,10,11,12,13,14]) [7,8] kr ?_)
 obtain⟨a1,Z,_,n1,s,m1,hbr,J⟩:=HN (sz:=1) (bytes:=24) (m:=fds.length) (len:=sK k+2) (x:=fd) s sm (aO s.mono hdr) (cQ hdr) om om
 have hm0:=hm0.tr m1
 have hdA:=hdA.mono fun _ _ q=>q.mono m1
 have hgm:=hgm.mono m1
 refine Sd.eff (some 28) kr kr (J _ _ kr) ⟨.inl kr,.inl kr,trivial⟩ ?_
 have hall:bJ Z _ (List.replicate (sK k+2) []++ds):=⟨_,hbr,aw.append (v7 _) hdA⟩
 refine Sd.go (L:=[10,11,12,13,14]) [2] kr ?_
 obtain⟨_,Z,_,hc32,hm33,ht34,⟨g,e,rfl,hS⟩⟩:=(DB (W:=lK k) (N:=N) (len:=sK k+2+es.length) (dB k es) (List.replicate (sK k+2) []++ds) hgm hall (k7 h1 h8 es).1 (by simp[hdl]) om om om om hN0 hN s.topX:af 70 [vi (lK k),vi N,vf (gm),vf (a1)] Z (n1) _)
 obtain⟨_,hc36,s⟩:=s.call hc32 hm33 ht34
 have hm0:=hm0.tr hm33
 refine Sd.eff (some 29) kr kr (b_ kr hc36 kr) ⟨.inl kr,.inl kr,trivial⟩ ?_
 rw[List.map_append,Ep,y_ hds,y_ (k7 h1 h8 es)]at hS
 refine Sd.go (L:=[]) [11,12,13,14] kr (Sd.done ?_)
 show To Tryz.prog 46 [1,1,1] _ _ _ _
 refine rt ?_
 exact⟨.inr rfl,_,kr,Z,_,s,hm0,g,e,rfl,hS⟩
noncomputable def l0:List Nat→List Nat→Bool
 |[],[]=>true
 |a::l,b::k=>Nat.beq a b&&l0 l k
 |_,_=>false
theorem yj:∀{l k:List Nat},l0 l k=true→l=k
 |[],[],_=>rfl
 |a::l,b::k,h=>by
  simp only[l0,Bool.and_eq_true]at h
  rw[Nat.eq_of_beq_eq_true h.1,yj h.2]
 |[],_::_,h=>by simp[l0]at h
 |_::_,[],h=>by simp[l0]at h
noncomputable def zS(k:Nat):Bool:=match lD (d_ 47 [vi k])with | some l=>l0 l (List.range k) | none=>false
theorem C1:jX zS=true:=by kernel_rfl
theorem uo{X:Heap}{n k:Nat}(h1:1≤k)(h8:k≤8)(ht:ap X n):af 47 [vi k] X n fun v X'=>∃g,v=vf g∧bo X' g (List.range k):=by
 have h:=jK C1 h1 h8
 unfold zS at h
 split at h
 ·rename_i l hl
  have:=yj h
  subst this
  exact uA hl rfl ht
 ·cases h
theorem vH{X:Heap}{n k:Nat}(h1:1≤k)(h8:k≤8)(ht:ap X n):af 45 [vi k] X n fun v _=>v=.tup [.f (.int .i64 0),.f (.int .i64 0)]:=by
 have hH:∀i,n≤i→i<n+100000→X i=none:=fun i h _=>ht i h
 have ht2:ap X (n+100000):=fun j hj=>ht j om
 have:k=1∨k=2∨k=3∨k=4∨k=5∨k=6∨k=7∨k=8:=by omega
 rcases this with rfl | rfl | rfl | rfl | rfl | rfl | rfl | rfl
 ·exact⟨_,_,_,Hk X n hH,ab.rfl,ht2,rfl⟩
 ·exact⟨_,_,_,G7 X n hH,ab.rfl,ht2,rfl⟩
 ·exact⟨_,_,_,G4 X n hH,ab.rfl,ht2,rfl⟩
 ·exact⟨_,_,_,Hg X n hH,ab.rfl,ht2,rfl⟩
 ·exact⟨_,_,_,Hw X n hH,ab.rfl,ht2,rfl⟩
 ·exact⟨_,_,_,G6 X n hH,ab.rfl,ht2,rfl⟩
 ·exact⟨_,_,_,Hj X n hH,ab.rfl,ht2,rfl⟩
 ·exact⟨_,_,_,Hl X n hH,ab.rfl,ht2,rfl⟩
theorem t9{l:List Nat}{f:Nat→List Nat}{i:Nat}(hi:i<l.length):(l.take (i+1)).map f=(l.take i).map f++[f l[i]]:=by rw[e_ hi,List.map_append];rfl
theorem xo{N:Nat}:∀{r:List Nat} {cs:List (List Nat)} {x:Nat},r.length=cs.length→x<r.length→r[x]?=some 0→(∀c∈cs,Rw N c)→B8 r→a9 N (r.set x 1) cs=aX (a9 N r cs) (bc cs x)
 |a::r,c::cs,0,hl,_,h0,hc,hb=>by
  simp only[List.getElem?_cons_zero,Option.some.injEq]at h0
  subst h0
  have hcl:=hc c sm
  have ht:=mF (N:=N) (r:=r) (xs:=cs) (fun y hy=>hb y (by simp[hy])) (fun y hy=>hc y (by simp[hy]))
  show aX (bW 1 c) (a9 N r cs)=aX (aX (bW 0 c) (a9 N r cs)) c
  have e:=mH (a9 N r cs)
  rw[ht.1]at e
  rw[oY hcl.2,rG,hcl.1,e,rf (by rw[hcl.1,ht.1])]
 |a::r,c::cs,x+1,hl,hx,h0,hc,hb=>by
  have hcl:=hc c sm
  have hb':B8 r:=fun y hy=>hb y (by simp[hy])
  have hc':∀y∈cs,Rw N y:=fun y hy=>hc y (by simp[hy])
  have ih:=xo (N:=N) (r:=r) (cs:=cs) (x:=x) (by simpa using hl) (by simpa using hx) (by simpa using h0) hc' hb'
  have ht:=mF (N:=N) (r:=r) (xs:=cs) hb' hc'
  have e:bc (c::cs) (x+1)=bc cs x:=by unfold bc;simp
  have hxl:x<cs.length:=by simp at hl hx;omega
  have hr:Rw N (bc cs x):=by unfold bc;rw[List.getElem?_eq_getElem hxl];exact hc' _ (List.getElem_mem _)
  show aX (bW a c) (a9 N (r.set x 1) cs)=aX (aX (bW a c) (a9 N r cs)) (bc (c::cs) (x+1))
  rw[ih,e,jF (by rw[jP,hcl.1,ht.1]) (by rw[ht.1,hr.1])]
 |[],_,_,_,hx,_,_,_=>by simp at hx
 |_::_,[],_,hl,_,_,_,_=>by simp at hl
theorem vQ{N W:Nat}{cs:List (List Nat)}(hl:cs.length=W)(hc:∀c∈cs,Rw N c):∀{l r:List Nat},Rw W r→l.Nodup→(∀x∈l,r[x]?=some 0)→a9 N (l.foldl (fun r x=>r.set x 1) r) cs=(l.map (bc cs)).foldl aX (a9 N r cs)
 |[],r,_,_,_=>rfl
 |x::l,r,hr,hn,h0=>by
  rw[List.nodup_cons]at hn
  have hx:=h0 x sm
  have hxl:x<r.length:=by
   rcases Nat.lt_or_ge x r.length with h | h
   ·exact h
   ·rw[List.getElem?_eq_none h]at hx;cases hx
  simp only[List.foldl_cons,List.map_cons]
  rw[vQ hl hc (l:=l) (r:=r.set x 1) ⟨by rw[List.length_set];exact hr.1,fun y hy=>by
   rcases List.mem_or_eq_of_mem_set hy with h1 | rfl
   ·exact hr.2 y h1
   ·omega⟩ hn.2 fun y hy=>by
    have hne:x≠y:=fun e=>hn.1 (by rw[e];exact hy)
    rw[List.getElem?_set_ne hne]
    exact h0 y (by simp[hy]),xo (by rw[hr.1,hl]) hxl hx hc hr.2]
theorem C'{N W:Nat}{cs:List (List Nat)}(hl:cs.length=W)(hc:∀c∈cs,Rw N c){l:List Nat}(hn:l.Nodup)(hlt:∀x∈l,x<W):a9 N (gX W l) cs=cE N (l.map (bc cs)):=by
 have h:=vQ hl hc (l:=l) (Rw.zs W) hn fun x hx=>by rw[List.getElem?_replicate,if_pos (hlt x hx)]
 rw[oS W hc]at h
 exact h
theorem wc{X:Heap}{n:Nat}{k N esi:Nat}{fc:F}(cs:List (List Nat))(h1:1≤k)(h8:k≤8)(hp:gc k esi)(hc:bJ X fc cs)(hcs:Mx (lK k) N cs)(hN0:0<N)(hN:N≤64)(ht:ap X n):af 48 [.u (.agg [iN k,iN (sK k),.int .i64 2]),vf (.int .i64 0),vi N,vf (fc),vi esi] X n fun v X'=>∃g,v=vf g∧aB X' g (a9 N (cO k esi) cs):=by
 refine af.of_to kr ?_
 have s0:=aa.ini ht
 have hm0:ab X X:=ab.rfl
 have hL:=lM h8
 have hcl:=hcs.1
 refine ag ?_
 obtain⟨H1,s2,J3⟩:=cu s0 (.cells [iN k,iN (sK k),.int .i64 2] true)
 refine ov 5 (J3 _ _ (vf (.ptr (n) (0)))) (ae 1 (ag (ov 15 (la 0 3 [iN k,iN (sK k),.int .i64 2] (s2.at 0 rfl)) (go 2 ?_))))
 obtain⟨_,X4,n5,hc6,hm7,ht8,⟨pg,rfl,hpg⟩⟩:=(vm hp s2.topX:af 71 [.u (.agg [iN k,iN (sK k),.int .i64 2]),vf (.int .i64 0),vi esi] X (n+1) _)
 obtain⟨H9,hc10,s⟩:=s2.call hc6 hm7 ht8
 have hm0:=hm0.tr hm7
 have hc:=hc.mono hm7
 refine ov 18 (jC hc10) ?_
 have hone:=hp.one
 have hfew:=hp.few
 refine ae 1 (aP 1 (ov 20 (lv ((partsN k esi).length) hpg.lenA) (ov 21 (eF ((partsN k esi).length) 0) (go 2 (ov 24 (lv cs.length hc.lenA) (ov 25 (la 0 3 [iN k,iN (sK k),.int .i64 2] (s.at 0 rfl)) ?_))))))
 obtain⟨_,W,_,hc14,hm15,ht16,rfl⟩:=(sE h1 h8 s.topX:af 68 [.u (.agg [iN k,iN (sK k),.int .i64 2])] X4 (n5) _)
 obtain⟨_,hc18,s⟩:=s.call hc14 hm15 ht16
 have hm0:=hm0.tr hm15
 have hc:=hc.mono hm15
 have hpg:=hpg.mono hm15
 refine ov 26 (jC hc18) (ov 27 (uF cs.length (lK k)) (go 3 (ov 31 (lF N 1) (go 3 (ov 35 (gF N 64) ?_)))))
 obtain⟨pid,poff,pcap,rfl,hpa⟩:=hpg.sl om
 refine ae 1 (ar (nx (ah 1 (aP 1 (ov 38 (ln ((partsN k esi).length)) (ae 1 (bk 0 (To.loop kr (aC.for ((partsN k esi).length) (fun i A Hq nq=>∃(Y:Heap) (a:F) (fs:List F),aL A [(2,vi N),(3,vf (fc)),(12,vf (a)),(37,vf (.sl (pid) (poff) 1 ((partsN k esi).length) pcap)),(38,vf (iN ((partsN k esi).length))),(39,vi i)]∧aa Y Hq nq ([(n,.cells [iN k,iN (sK k),.int .i64 2] true)]++(a_ (a) (fs)++[]))∧(ab X Y)∧(bJ Y fc cs)∧(∀(j x:Nat),(partsN k esi)[j]?=some x→cn Y pid (poff+j) (.int .i64 (x:Int)))∧(bO 1 a fs)∧(aw (aB Y) fs (((partsN k esi).take i).map (bc cs)))) ⟨W,.sl0,[],az (ts:=[2,3,12,37,38,39]) kr,s,(hm0),(hc),(hpa),(bO.nil 1),(trivial)⟩ (fun i A H n1 hi hI=>?_) (fun A H n1 hI=>?_))))))))))
 ·obtain⟨Y,a,fs,hT,s,hm0,hc,hpa,ha,hA⟩:=hI
  refine To.keep _ ?_ hT.sub
  have hx:(partsN k esi)[i]?=some (partsN k esi)[i]:=List.getElem?_eq_getElem hi
  have hlt:=hp.lt _ (List.getElem_mem hi)
  have hl:=hA.length
  rw[List.length_map,List.length_take]at hl
  obtain⟨cid,coff,ccap,gs,rfl,hG,hcat⟩:=hc.sl om
  obtain⟨g,hg0,hg1⟩:=hG.row (i:=(partsN k esi)[i]) om
  refine ag (ov 40 (lT i ((partsN k esi).length)) (aQ (aM (nx (aD 1 (ag (ov 41 (ix pid poff 1 ((partsN k esi).length) i) (ov 42 (lx pid (poff+i*1) (iN ((partsN k esi)[i])) (by rw[Nat.mul_one];exact(hpa i _ hx).mono (s.mono _))) (ae 1 (rg (go 3 (ov 46 (ix cid coff 1 cs.length ((partsN k esi)[i])) (ov 47 (lx cid (coff+((partsN k esi)[i])*1) g (by rw[Nat.mul_one];exact(hcat _ _ hg0).mono (s.mono _))) ?_)))))))))))))
  obtain⟨W,_,s,m,f,J⟩:=bj s (.cells [g] true)
  have hm0:=hm0.tr m
  have hpa:=fun j x h=>(hpa j x h).mono (m _)
  have hc:=hc.mono m
  have hA:=hA.mono fun _ _ q=>q.mono m
  have hg1:=hg1.mono m
  refine ov 48 (J _ _ (vf (.sl (n1) (0) 1 (1) none))) ?_
  obtain⟨_,_,_,ha32,s,J⟩:=eW (sz:=1) (bytes:=24) (x:=.sl (n1) (0) 1 (1) none) (fs:=fs) (new:=[g]) (M1:=[(n,.cells [iN k,iN (sK k),.int .i64 2] true)]) s ha (bf (s.mono _ _ f) rfl) (rfl) om om
  refine ov 49 (J _ _) (ae 1 (rg (ov 50 (aN i 1) (aR 1 ?_))))
  exact .inl ⟨rfl,W,_,_,az (ts:=[2,3,12,37,38,39]) kr,s,(hm0),(hc),(hpa),(ha32),(by rw[t9 hi];exact hA.snoc hg1)⟩
 ·obtain⟨Y,a,fs,hT,s,hm0,hc,hpa,ha,hA⟩:=hI
  refine To.keep _ ?_ hT.sub
  refine ag (ov 40 (au (cr .i64 (x:=((((partsN k esi).length):Nat):Int)) (y:=(((partsN k esi).length:Nat):Int)) sm)) (aj ?_))
  obtain⟨W,m1,s,hrow,_⟩:=aa.acc (sz:=1) (M1:=[(n,.cells [iN k,iN (sK k),.int .i64 2] true)]) (M2:=[]) (a:=a) (fs:=fs) (by simpa using s) ha
  have hm0:=hm0.tr m1
  have hA:=hA.mono fun _ _ q=>q.mono m1
  have s:aa W H (n1) [(n,.cells [iN k,iN (sK k),.int .i64 2] true)]:=by simpa using s
  refine sq (iF (To.exit 0 kr ?_))
  refine⟨sm,?_⟩
  show To Tryz.prog 48 [1,1,1,1,1] _ _ _ _
  refine ai 2 ?_
  obtain⟨_,W,_,hc41,hm42,ht43,⟨y,rfl,hy⟩⟩:=(rI (N:=N) ((partsN k esi).map (bc cs)) ⟨_,hrow,by rw[List.take_length]at hA;exact hA⟩ om (by simp;omega) s.topX:af 65 [vi N,vf (a)] W (n1) _)
  obtain⟨_,hc45,s⟩:=s.call hc41 hm42 ht43
  have hm0:=hm0.tr hm42
  refine ov 53 (jC hc45) (ax 1 ?_)
  exact⟨.inr rfl,_,kr,W,_,s,hm0,y,rfl,by rw[C' hcs.1 hcs.2 hp.nod hp.lt];exact hy⟩
end Go.Proofs.YtkimkgbppegkhaaGreat.Cm
