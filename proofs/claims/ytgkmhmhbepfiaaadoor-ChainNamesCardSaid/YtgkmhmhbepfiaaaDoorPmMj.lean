/- Texts of this proof in one file: PmJt, PmJv. No law of Go's is stated here. -/
import Derived.Test.YtgkmhmhbepfiaaaDoorPmMh
import Derived.Test.YtgkmhmhbepfiaaaDoorPmMi
/-! PmJt -/
set_option linter.all false
set_option maxRecDepth 100000
set_option maxHeartbeats 8000000
namespace Go.Proofs.YtgkmhmhbepfiaaaDoor.Pm
open Go Go.RowKit

def la0 : List (BitVec 8) := [102#8, 125#8, 90#8, 247#8, 116#8, 88#8, 232#8, 180#8, 85#8, 35#8, 151#8, 235#8, 161#8, 48#8, 201#8, 254#8, 97#8, 4#8, 139#8, 129#8, 233#8, 137#8, 38#8, 128#8, 77#8, 217#8, 148#8, 34#8, 108#8, 169#8, 118#8, 56#8]
theorem la_0 : stepV z32 0 (ofV []) = la0 := by decide +kernel
def la1 : List (BitVec 8) := [101#8, 232#8, 63#8, 87#8, 128#8, 225#8, 222#8, 103#8, 246#8, 141#8, 160#8, 77#8, 93#8, 28#8, 60#8, 29#8, 3#8, 134#8, 63#8, 89#8, 169#8, 183#8, 97#8, 50#8, 17#8, 122#8, 115#8, 148#8, 209#8, 86#8, 181#8, 63#8]
theorem la_1 : stepV la0 1 z32 = la1 := by decide +kernel
def la2 : List (BitVec 8) := [179#8, 134#8, 121#8, 172#8, 33#8, 117#8, 161#8, 74#8, 222#8, 206#8, 53#8, 136#8, 22#8, 193#8, 223#8, 76#8, 1#8, 2#8, 76#8, 33#8, 29#8, 154#8, 161#8, 75#8, 108#8, 43#8, 78#8, 169#8, 55#8, 67#8, 53#8, 17#8]
theorem la_2 : stepV la1 2 z32 = la2 := by decide +kernel
def la3 : List (BitVec 8) := [151#8, 38#8, 26#8, 140#8, 167#8, 137#8, 87#8, 102#8, 199#8, 97#8, 142#8, 110#8, 227#8, 169#8, 141#8, 163#8, 134#8, 42#8, 178#8, 194#8, 86#8, 72#8, 209#8, 127#8, 223#8, 111#8, 12#8, 215#8, 116#8, 171#8, 243#8, 222#8]
theorem la_3 : stepV la2 3 z32 = la3 := by decide +kernel
def la4 : List (BitVec 8) := [111#8, 30#8, 79#8, 29#8, 43#8, 244#8, 64#8, 25#8, 75#8, 169#8, 236#8, 94#8, 56#8, 79#8, 14#8, 253#8, 243#8, 171#8, 143#8, 16#8, 1#8, 215#8, 26#8, 172#8, 160#8, 189#8, 66#8, 164#8, 199#8, 232#8, 220#8, 223#8]
theorem la_4 : stepV la3 4 z32 = la4 := by decide +kernel
def la5 : List (BitVec 8) := [138#8, 187#8, 96#8, 41#8, 249#8, 78#8, 157#8, 242#8, 74#8, 240#8, 228#8, 11#8, 156#8, 191#8, 238#8, 220#8, 211#8, 130#8, 229#8, 220#8, 72#8, 48#8, 3#8, 62#8, 49#8, 44#8, 122#8, 139#8, 58#8, 67#8, 144#8, 154#8]
theorem la_5 : stepV la4 5 z32 = la5 := by decide +kernel
def la6 : List (BitVec 8) := [227#8, 97#8, 141#8, 229#8, 36#8, 130#8, 149#8, 250#8, 89#8, 34#8, 241#8, 52#8, 59#8, 37#8, 36#8, 102#8, 171#8, 26#8, 88#8, 101#8, 114#8, 76#8, 19#8, 132#8, 250#8, 203#8, 59#8, 248#8, 70#8, 231#8, 132#8, 46#8]
theorem la_6 : stepV la5 6 z32 = la6 := by decide +kernel
def la7 : List (BitVec 8) := [170#8, 228#8, 32#8, 71#8, 114#8, 101#8, 42#8, 139#8, 9#8, 79#8, 118#8, 255#8, 46#8, 231#8, 65#8, 76#8, 129#8, 191#8, 243#8, 234#8, 243#8, 189#8, 176#8, 124#8, 153#8, 92#8, 0#8, 179#8, 87#8, 118#8, 126#8, 235#8]
theorem la_7 : stepV la6 7 z32 = la7 := by decide +kernel
def la8 : List (BitVec 8) := [32#8, 199#8, 130#8, 231#8, 35#8, 90#8, 17#8, 159#8, 148#8, 217#8, 158#8, 41#8, 219#8, 84#8, 244#8, 188#8, 93#8, 51#8, 171#8, 238#8, 128#8, 63#8, 21#8, 190#8, 157#8, 248#8, 55#8, 25#8, 37#8, 28#8, 81#8, 76#8]
theorem la_8 : stepV la7 8 z32 = la8 := by decide +kernel
def la9 : List (BitVec 8) := [182#8, 29#8, 145#8, 161#8, 155#8, 187#8, 37#8, 39#8, 148#8, 30#8, 255#8, 227#8, 149#8, 135#8, 151#8, 100#8, 50#8, 103#8, 8#8, 43#8, 33#8, 104#8, 132#8, 19#8, 126#8, 169#8, 185#8, 137#8, 29#8, 29#8, 158#8, 243#8]
theorem la_9 : stepV la8 9 z32 = la9 := by decide +kernel
def la10 : List (BitVec 8) := [110#8, 178#8, 6#8, 49#8, 117#8, 60#8, 118#8, 134#8, 2#8, 73#8, 77#8, 173#8, 206#8, 136#8, 31#8, 20#8, 155#8, 165#8, 220#8, 182#8, 38#8, 116#8, 205#8, 137#8, 72#8, 158#8, 13#8, 123#8, 94#8, 33#8, 111#8, 163#8]
theorem la_10 : stepV la9 10 z32 = la10 := by decide +kernel
def la11 : List (BitVec 8) := [47#8, 104#8, 237#8, 203#8, 63#8, 153#8, 221#8, 108#8, 183#8, 24#8, 145#8, 238#8, 139#8, 95#8, 110#8, 21#8, 252#8, 222#8, 36#8, 30#8, 76#8, 197#8, 100#8, 250#8, 36#8, 194#8, 17#8, 163#8, 20#8, 66#8, 110#8, 130#8]
theorem la_11 : stepV la10 11 z32 = la11 := by decide +kernel
def la12 : List (BitVec 8) := [180#8, 49#8, 75#8, 128#8, 223#8, 99#8, 33#8, 101#8, 71#8, 14#8, 211#8, 49#8, 169#8, 172#8, 254#8, 152#8, 30#8, 96#8, 225#8, 182#8, 62#8, 79#8, 45#8, 80#8, 154#8, 29#8, 241#8, 10#8, 249#8, 101#8, 149#8, 64#8]
theorem la_12 : stepV la11 12 z32 = la12 := by decide +kernel
def la13 : List (BitVec 8) := [117#8, 124#8, 36#8, 245#8, 26#8, 36#8, 117#8, 45#8, 197#8, 228#8, 119#8, 90#8, 76#8, 61#8, 251#8, 87#8, 24#8, 225#8, 248#8, 241#8, 67#8, 88#8, 47#8, 247#8, 86#8, 9#8, 83#8, 31#8, 212#8, 49#8, 131#8, 237#8]
theorem la_13 : stepV la12 13 z32 = la13 := by decide +kernel
def la14 : List (BitVec 8) := [40#8, 69#8, 68#8, 197#8, 42#8, 44#8, 49#8, 109#8, 14#8, 189#8, 41#8, 247#8, 135#8, 152#8, 131#8, 56#8, 11#8, 108#8, 164#8, 78#8, 200#8, 252#8, 231#8, 7#8, 109#8, 51#8, 68#8, 58#8, 225#8, 195#8, 48#8, 11#8]
theorem la_14 : stepV la13 14 z32 = la14 := by decide +kernel
def la15 : List (BitVec 8) := [6#8, 23#8, 210#8, 83#8, 27#8, 41#8, 234#8, 29#8, 58#8, 140#8, 187#8, 82#8, 178#8, 125#8, 139#8, 247#8, 45#8, 78#8, 53#8, 214#8, 112#8, 255#8, 1#8, 14#8, 8#8, 130#8, 232#8, 20#8, 197#8, 33#8, 50#8, 207#8]
theorem la_15 : stepV la14 15 z32 = la15 := by decide +kernel
def la16 : List (BitVec 8) := [244#8, 190#8, 121#8, 134#8, 39#8, 104#8, 80#8, 56#8, 184#8, 166#8, 159#8, 200#8, 209#8, 105#8, 105#8, 230#8, 239#8, 49#8, 98#8, 246#8, 179#8, 63#8, 214#8, 193#8, 116#8, 253#8, 251#8, 176#8, 33#8, 42#8, 34#8, 21#8]
theorem la_16 : stepV la15 16 z32 = la16 := by decide +kernel
def la17 : List (BitVec 8) := [173#8, 51#8, 132#8, 202#8, 204#8, 76#8, 176#8, 15#8, 86#8, 28#8, 231#8, 111#8, 68#8, 55#8, 100#8, 42#8, 165#8, 197#8, 172#8, 28#8, 23#8, 138#8, 213#8, 97#8, 29#8, 56#8, 87#8, 119#8, 249#8, 138#8, 155#8, 57#8]
theorem la_17 : stepV la16 17 z32 = la17 := by decide +kernel
def la18 : List (BitVec 8) := [160#8, 128#8, 119#8, 64#8, 232#8, 201#8, 145#8, 46#8, 101#8, 114#8, 48#8, 220#8, 166#8, 81#8, 186#8, 9#8, 162#8, 0#8, 177#8, 82#8, 155#8, 237#8, 119#8, 65#8, 103#8, 33#8, 130#8, 105#8, 219#8, 1#8, 209#8, 152#8]
theorem la_18 : stepV la17 18 z32 = la18 := by decide +kernel
def la19 : List (BitVec 8) := [115#8, 44#8, 161#8, 39#8, 30#8, 103#8, 157#8, 80#8, 62#8, 232#8, 108#8, 203#8, 197#8, 140#8, 214#8, 211#8, 209#8, 213#8, 196#8, 176#8, 218#8, 75#8, 31#8, 21#8, 115#8, 169#8, 26#8, 36#8, 190#8, 190#8, 149#8, 193#8]
theorem la_19 : stepV la18 19 z32 = la19 := by decide +kernel
def la20 : List (BitVec 8) := [81#8, 183#8, 161#8, 181#8, 132#8, 149#8, 239#8, 146#8, 222#8, 64#8, 48#8, 137#8, 128#8, 117#8, 236#8, 139#8, 75#8, 34#8, 42#8, 173#8, 178#8, 138#8, 67#8, 22#8, 108#8, 71#8, 166#8, 93#8, 17#8, 69#8, 136#8, 159#8]
theorem la_20 : stepV la19 20 z32 = la20 := by decide +kernel
def la21 : List (BitVec 8) := [23#8, 12#8, 99#8, 246#8, 205#8, 136#8, 58#8, 5#8, 47#8, 235#8, 85#8, 181#8, 25#8, 34#8, 21#8, 154#8, 100#8, 51#8, 92#8, 171#8, 203#8, 188#8, 25#8, 13#8, 39#8, 217#8, 146#8, 213#8, 103#8, 29#8, 17#8, 172#8]
theorem la_21 : stepV la20 21 z32 = la21 := by decide +kernel
def la22 : List (BitVec 8) := [235#8, 227#8, 246#8, 174#8, 124#8, 46#8, 237#8, 88#8, 147#8, 208#8, 143#8, 228#8, 47#8, 135#8, 242#8, 250#8, 177#8, 1#8, 55#8, 35#8, 198#8, 46#8, 7#8, 165#8, 122#8, 49#8, 196#8, 239#8, 87#8, 158#8, 247#8, 150#8]
theorem la_22 : stepV la21 22 z32 = la22 := by decide +kernel
def la23 : List (BitVec 8) := [254#8, 81#8, 50#8, 222#8, 31#8, 143#8, 173#8, 149#8, 38#8, 226#8, 186#8, 38#8, 122#8, 5#8, 20#8, 170#8, 200#8, 105#8, 148#8, 147#8, 57#8, 94#8, 87#8, 254#8, 46#8, 7#8, 80#8, 230#8, 17#8, 7#8, 169#8, 78#8]
theorem la_23 : stepV la22 23 z32 = la23 := by decide +kernel
def la24 : List (BitVec 8) := [221#8, 32#8, 210#8, 57#8, 123#8, 128#8, 128#8, 13#8, 157#8, 51#8, 197#8, 38#8, 72#8, 10#8, 214#8, 76#8, 178#8, 86#8, 126#8, 133#8, 85#8, 100#8, 152#8, 222#8, 7#8, 105#8, 123#8, 27#8, 234#8, 67#8, 204#8, 155#8]
theorem la_24 : stepV la23 24 z32 = la24 := by decide +kernel
def la25 : List (BitVec 8) := [101#8, 90#8, 212#8, 81#8, 250#8, 98#8, 89#8, 234#8, 98#8, 174#8, 255#8, 64#8, 226#8, 230#8, 95#8, 228#8, 50#8, 20#8, 17#8, 3#8, 17#8, 9#8, 219#8, 112#8, 251#8, 220#8, 247#8, 167#8, 152#8, 250#8, 117#8, 6#8]
theorem la_25 : stepV la24 25 z32 = la25 := by decide +kernel
def la26 : List (BitVec 8) := [28#8, 240#8, 56#8, 34#8, 131#8, 172#8, 187#8, 182#8, 238#8, 176#8, 33#8, 18#8, 210#8, 43#8, 165#8, 30#8, 89#8, 52#8, 141#8, 193#8, 168#8, 134#8, 218#8, 60#8, 252#8, 37#8, 198#8, 190#8, 56#8, 64#8, 9#8, 172#8]
theorem la_26 : stepV la25 26 z32 = la26 := by decide +kernel
def la27 : List (BitVec 8) := [197#8, 175#8, 95#8, 81#8, 252#8, 219#8, 208#8, 178#8, 147#8, 152#8, 94#8, 66#8, 161#8, 235#8, 246#8, 43#8, 107#8, 99#8, 194#8, 16#8, 221#8, 123#8, 125#8, 105#8, 95#8, 213#8, 193#8, 102#8, 167#8, 138#8, 200#8, 24#8]
theorem la_27 : stepV la26 27 z32 = la27 := by decide +kernel
def la28 : List (BitVec 8) := [112#8, 148#8, 150#8, 61#8, 139#8, 150#8, 160#8, 102#8, 107#8, 145#8, 197#8, 99#8, 22#8, 221#8, 40#8, 97#8, 114#8, 101#8, 71#8, 136#8, 134#8, 60#8, 22#8, 72#8, 74#8, 56#8, 160#8, 123#8, 161#8, 15#8, 237#8, 229#8]
theorem la_28 : stepV la27 28 z32 = la28 := by decide +kernel
def la29 : List (BitVec 8) := [33#8, 108#8, 29#8, 13#8, 109#8, 9#8, 142#8, 18#8, 144#8, 25#8, 172#8, 217#8, 101#8, 111#8, 73#8, 169#8, 132#8, 49#8, 88#8, 78#8, 29#8, 242#8, 233#8, 41#8, 128#8, 235#8, 22#8, 37#8, 228#8, 1#8, 172#8, 162#8]
theorem la_29 : stepV la28 29 z32 = la29 := by decide +kernel
def la30 : List (BitVec 8) := [221#8, 1#8, 166#8, 151#8, 133#8, 228#8, 189#8, 65#8, 210#8, 217#8, 110#8, 35#8, 172#8, 104#8, 122#8, 61#8, 115#8, 141#8, 118#8, 187#8, 227#8, 207#8, 177#8, 247#8, 224#8, 154#8, 96#8, 166#8, 147#8, 15#8, 156#8, 108#8]
theorem la_30 : stepV la29 30 z32 = la30 := by decide +kernel
def la31 : List (BitVec 8) := [241#8, 135#8, 171#8, 184#8, 204#8, 119#8, 0#8, 219#8, 123#8, 229#8, 73#8, 215#8, 217#8, 253#8, 23#8, 249#8, 111#8, 73#8, 44#8, 200#8, 145#8, 44#8, 245#8, 200#8, 40#8, 53#8, 149#8, 224#8, 201#8, 126#8, 110#8, 138#8]
theorem la_31 : stepV la30 31 z32 = la31 := by decide +kernel
def la32 : List (BitVec 8) := [94#8, 213#8, 168#8, 227#8, 41#8, 143#8, 220#8, 226#8, 41#8, 204#8, 98#8, 32#8, 100#8, 46#8, 1#8, 74#8, 193#8, 151#8, 85#8, 255#8, 201#8, 70#8, 160#8, 135#8, 40#8, 47#8, 123#8, 135#8, 69#8, 204#8, 150#8, 159#8]
theorem la_32 : stepV la31 32 z32 = la32 := by decide +kernel
def la33 : List (BitVec 8) := [17#8, 39#8, 199#8, 98#8, 251#8, 100#8, 47#8, 0#8, 107#8, 187#8, 30#8, 65#8, 18#8, 4#8, 43#8, 128#8, 17#8, 153#8, 191#8, 171#8, 37#8, 149#8, 73#8, 51#8, 91#8, 44#8, 251#8, 76#8, 168#8, 164#8, 207#8, 182#8]
theorem la_33 : stepV la32 33 z32 = la33 := by decide +kernel
def la34 : List (BitVec 8) := [88#8, 87#8, 88#8, 11#8, 231#8, 241#8, 251#8, 112#8, 229#8, 113#8, 74#8, 38#8, 165#8, 45#8, 139#8, 69#8, 187#8, 128#8, 115#8, 65#8, 153#8, 29#8, 242#8, 109#8, 236#8, 19#8, 119#8, 81#8, 23#8, 154#8, 131#8, 80#8]
theorem la_34 : stepV la33 34 z32 = la34 := by decide +kernel
def la35 : List (BitVec 8) := [100#8, 138#8, 255#8, 81#8, 7#8, 129#8, 128#8, 172#8, 189#8, 142#8, 90#8, 140#8, 186#8, 146#8, 247#8, 39#8, 39#8, 39#8, 243#8, 125#8, 212#8, 170#8, 46#8, 211#8, 152#8, 177#8, 125#8, 115#8, 235#8, 14#8, 155#8, 146#8]
theorem la_35 : stepV la34 35 z32 = la35 := by decide +kernel
def la36 : List (BitVec 8) := [94#8, 232#8, 119#8, 189#8, 224#8, 79#8, 48#8, 128#8, 69#8, 60#8, 72#8, 232#8, 161#8, 147#8, 71#8, 173#8, 208#8, 238#8, 109#8, 223#8, 44#8, 160#8, 127#8, 92#8, 201#8, 23#8, 54#8, 222#8, 56#8, 149#8, 18#8, 91#8]
theorem la_36 : stepV la35 36 z32 = la36 := by decide +kernel
def la37 : List (BitVec 8) := [212#8, 178#8, 104#8, 228#8, 82#8, 111#8, 153#8, 140#8, 107#8, 239#8, 154#8, 6#8, 20#8, 250#8, 161#8, 127#8, 49#8, 206#8, 7#8, 90#8, 42#8, 229#8, 43#8, 200#8, 194#8, 113#8, 231#8, 179#8, 73#8, 20#8, 234#8, 226#8]
theorem la_37 : stepV la36 37 z32 = la37 := by decide +kernel
def la38 : List (BitVec 8) := [60#8, 46#8, 32#8, 209#8, 185#8, 189#8, 143#8, 97#8, 150#8, 117#8, 2#8, 188#8, 125#8, 69#8, 135#8, 182#8, 233#8, 184#8, 8#8, 9#8, 109#8, 231#8, 14#8, 16#8, 87#8, 19#8, 69#8, 253#8, 44#8, 123#8, 168#8, 81#8]
theorem la_38 : stepV la37 38 z32 = la38 := by decide +kernel
def la39 : List (BitVec 8) := [214#8, 24#8, 227#8, 41#8, 238#8, 24#8, 138#8, 159#8, 126#8, 40#8, 44#8, 184#8, 149#8, 201#8, 54#8, 244#8, 86#8, 133#8, 36#8, 175#8, 222#8, 85#8, 221#8, 45#8, 8#8, 138#8, 124#8, 239#8, 98#8, 66#8, 92#8, 135#8]
theorem la_39 : stepV la38 39 z32 = la39 := by decide +kernel
end Go.Proofs.YtgkmhmhbepfiaaaDoor.Pm

/-! PmJv -/
set_option linter.all false
set_option maxRecDepth 100000
set_option maxHeartbeats 8000000
namespace Go.Proofs.YtgkmhmhbepfiaaaDoor.Pm
open Go Go.RowKit

def zrB (n : Nat) : List (BitVec 8) := List.replicate n 0#8
def lnZ : Lnk := ⟨[], z32⟩
def lnZs (n : Nat) : List Lnk := List.replicate n lnZ
def lnBig : Lnk := ⟨zrB 201, z32⟩
def fullB : List (List (BitVec 8)) := List.replicate 40 []
def fullL : List Lnk := mkL fullB 40
def longB : List (List (BitVec 8)) := [zrB 200]
def longL : List Lnk := mkL longB 1
theorem lnZs_OK (n : Nat) : lnOK (lnZs n) := fun x hx => by rw [List.eq_of_mem_replicate hx]; rfl
theorem lnZ_OK : lnOK [lnZ] := lnZs_OK 1
theorem nil_OK : lnOK [] := fun x hx => by simp at hx
theorem big_OK : lnOK [lnBig] := fun x hx => by rw [List.mem_singleton.1 hx]; rfl
theorem full_small : smallL fullB := fun k hk => by
  have h := List.getElem_mem hk
  rw [List.eq_of_mem_replicate h]
  exact Nat.zero_le _
theorem long_small : smallL longB := fun k hk => by
  have h := List.getElem_mem hk
  rw [List.mem_singleton.1 h]
  show (List.replicate 200 0#8).length ≤ 200
  rw [List.length_replicate]
  exact Nat.le_refl _
theorem full_len : fullL.length = 40 := mkL_len _ _
theorem long_len : longL.length = 1 := mkL_len _ _
theorem full_OK : lnOK fullL := mkL_OK _ _
theorem long_OK : lnOK longL := mkL_OK _ _
theorem full_head : headE fullL = 0 := mk_headE full_small (by decide) (by decide)
theorem long_head : headE longL = 0 := mk_headE long_small (by decide) (by decide)
theorem nil_head : headE [] = 0 := by decide
theorem lnZ_check : checkV [lnZ] = 0 := by decide
theorem lnZ_first : firstV [lnZ] = 0 := by decide +kernel
theorem lnZ_head : headE [lnZ] = 22 := by unfold headE; rw [if_pos lnZ_check, lnZ_first]; rfl
theorem n_Head : Spec Tryd.prog 31 [.sl []] [] (.tup [.t (.agg (bN z32)) true, .t (.i .i64 0) true]) := by
  have h := s_chain_Head [] nil_OK
  rw [nil_head, show headV [] = z32 by decide] at h
  exact h
theorem n_First0 : Spec Tryd.prog 30 [.sl []] [] (.tup [.t (.i .i64 (-1)) true, .t (.i .i64 0) true]) := by
  have h := s_chain_First [] nil_OK
  rw [show fstV [] = -1 by decide, show checkV [] = 0 by decide] at h
  exact h
theorem n_First1 : Spec Tryd.prog 30 [.sl (lnT [lnZ])] [] (.tup [.t (.i .i64 0) true, .t (.i .i64 0) true]) := by
  have h := s_chain_First [lnZ] lnZ_OK
  rw [show fstV [lnZ] = 0 by unfold fstV; rw [if_pos lnZ_check, lnZ_first], lnZ_check] at h
  exact h
theorem n_Make40 : Spec Tryd.prog 29 [.sl (catE fullB)] [] (.tup [.t (.sl (lnT fullL)) true, .t (.i .i64 0) true]) := by
  have h := s_MakeT fullB
  have he : makeE fullB = 0 := by decide
  rw [show makeV fullB = fullL from if_pos he, he] at h
  exact h
theorem n_Make41 : Spec Tryd.prog 29 [.sl (catE (List.replicate 41 []))] [] (.tup [.t (.sl []) true, .t (.i .i64 4) true]) := by
  have h := s_MakeT (List.replicate 41 [])
  have he : makeE (List.replicate 41 []) = 4 := by decide
  rw [show makeV (List.replicate 41 []) = [] from if_neg (by rw [he]; decide), he] at h
  exact h
theorem n_Make201 : Spec Tryd.prog 29 [.sl (catE [zrB 201])] [] (.tup [.t (.sl []) true, .t (.i .i64 8) true]) := by
  have h := s_MakeT [zrB 201]
  have he : makeE [zrB 201] = 8 := by decide +kernel
  rw [show makeV [zrB 201] = [] from if_neg (by rw [he]; decide), he] at h
  exact h
theorem n_Make200 : Spec Tryd.prog 29 [.sl (catE longB)] [] (.tup [.t (.sl (lnT longL)) true, .t (.i .i64 0) true]) := by
  have h := s_MakeT longB
  have he : makeE longB = 0 := by decide +kernel
  rw [show makeV longB = longL from if_pos he, he] at h
  exact h
theorem n_Add (l : List Lnk) (hl : lnOK l) (d : List (BitVec 8)) (e : Int) (he : addE l d = e) (hn : e ≠ 0) : Spec Tryd.prog 38 [.sl (lnT l), .sl (bT d)] [] (.tup [.t (.sl []) true, .t (.i .i64 e) true]) := by
  have h := s_AddT l hl d
  rw [show addW l d = [] from if_neg (by rw [he]; exact hn), he] at h
  exact h
theorem n_AddF : Spec Tryd.prog 38 [.sl (lnT fullL), .sl []] [] (.tup [.t (.sl []) true, .t (.i .i64 4) true]) :=
  n_Add fullL full_OK [] 4 (by unfold addE; rw [if_pos full_head, full_len]; rfl) (by decide)
theorem n_AddL : Spec Tryd.prog 38 [.sl (lnT longL), .sl (bT (zrB 201))] [] (.tup [.t (.sl []) true, .t (.i .i64 8) true]) :=
  n_Add longL long_OK (zrB 201) 8 (by unfold addE; rw [if_pos long_head, long_len, if_pos (by decide), if_neg (by rw [zrB, List.length_replicate]; decide)]) (by decide)
theorem n_AddZ : Spec Tryd.prog 38 [.sl (lnT [lnZ]), .sl []] [] (.tup [.t (.sl []) true, .t (.i .i64 22) true]) :=
  n_Add [lnZ] lnZ_OK [] 22 (by unfold addE; rw [if_neg (by rw [lnZ_head]; decide), lnZ_head]) (by decide)
theorem n_Prove (l : List Lnk) (hl : lnOK l) (h0 : headE l = 0) (hn : l.length ≤ 1000) (n : Int) (hb : ¬ (0 ≤ n ∧ n < l.length)) : Spec Tryd.prog 44 [.sl (lnT l), .i .i64 n] [] (.tup [.t (.agg Wit.zero.cells) true, .t (.i .i64 2) true]) := by
  have he : proveE l n = 2 := by unfold proveE; rw [if_pos h0, if_neg hb]
  have h := s_ProveT l hl (by omega) n
  rw [he, show proveV l n = Wit.zero from if_neg (by rw [he]; decide)] at h
  exact h
theorem n_ProveA : Spec Tryd.prog 44 [.sl (lnT longL), .i .i64 1] [] (.tup [.t (.agg Wit.zero.cells) true, .t (.i .i64 2) true]) := n_Prove longL long_OK long_head (by rw [long_len]; decide) 1 (by rw [long_len]; decide)
theorem n_ProveB : Spec Tryd.prog 44 [.sl (lnT longL), .i .i64 (-1)] [] (.tup [.t (.agg Wit.zero.cells) true, .t (.i .i64 2) true]) := n_Prove longL long_OK long_head (by rw [long_len]; decide) (-1) (by rw [long_len]; decide)
theorem n_ProveC : Spec Tryd.prog 44 [.sl [], .i .i64 0] [] (.tup [.t (.agg Wit.zero.cells) true, .t (.i .i64 2) true]) := n_Prove [] nil_OK nil_head (by decide) 0 (by decide)
theorem n_AccN (w : Wit) (hw : w.fine) (hv : w.valid = false) : Spec Tryd.prog 46 [.agg (bN z32), .agg w.cells] [] (.tup [.t (.b false) true, .t (.i .i64 8) true]) := by
  have h := s_AcceptT z32 rfl w hw
  rw [show accB w z32 = false from if_neg (by rw [hv]; decide), show accE w = 8 from if_neg (by rw [hv]; decide)] at h
  exact h
def wPos (n : Int) : Wit := ⟨n, z32, [], []⟩
def wBig : Wit := ⟨0, z32, zrB 201, []⟩
def wLate (n : Int) : Wit := ⟨n, z32, [], List.replicate 39 z32⟩
theorem wPos_fine (n : Int) (h1 : -9223372036854775808 ≤ n) (h2 : n ≤ 9223372036854775807) : (wPos n).fine := ⟨rfl, by simp [wPos], h1, h2, by simp [wPos], by simp [wPos]⟩
theorem wBig_fine : wBig.fine := ⟨rfl, by simp [wBig], by simp [wBig], by simp [wBig], by simp [wBig, zrB], by simp [wBig]⟩
theorem wLate_fine (n : Int) (h1 : -9223372036854775808 ≤ n) (h2 : n ≤ 9223372036854775807) : (wLate n).fine := ⟨rfl, fun d hd => by rw [List.eq_of_mem_replicate hd]; rfl, h1, h2, by simp [wLate], by simp [wLate]⟩
theorem n_AccA : Spec Tryd.prog 46 [.agg (bN z32), .agg (wPos 40).cells] [] (.tup [.t (.b false) true, .t (.i .i64 8) true]) := n_AccN _ (wPos_fine _ (by decide) (by decide)) (by decide)
theorem n_AccB : Spec Tryd.prog 46 [.agg (bN z32), .agg (wPos (-1)).cells] [] (.tup [.t (.b false) true, .t (.i .i64 8) true]) := n_AccN _ (wPos_fine _ (by decide) (by decide)) (by decide)
theorem n_AccC : Spec Tryd.prog 46 [.agg (bN z32), .agg wBig.cells] [] (.tup [.t (.b false) true, .t (.i .i64 8) true]) := n_AccN _ wBig_fine (by decide +kernel)
theorem n_AccD : Spec Tryd.prog 46 [.agg (bN z32), .agg (wLate 1).cells] [] (.tup [.t (.b false) true, .t (.i .i64 8) true]) := n_AccN _ (wLate_fine _ (by decide) (by decide)) (by decide +kernel)
theorem late_step {j : Nat} (h : j < 39) : leadK (wLate 0) (j + 1) = stepV (leadK (wLate 0) j) (j + 1) z32 := by
  have hl : (wLate 0).later.length = 39 := List.length_replicate
  rw [leadK_step (w := wLate 0) (j := j) (by rw [hl]; exact h)]
  rw [show (wLate 0).pos.toNat + 1 + j = j + 1 by show 0 + 1 + j = j + 1; omega]
  congr 1
  exact List.getElem_replicate _
theorem late_0 : leadK (wLate 0) 0 = la0 := la_0
theorem late_1 : leadK (wLate 0) 1 = la1 := by rw [late_step (j := 0) (by decide), late_0]; exact la_1
theorem late_2 : leadK (wLate 0) 2 = la2 := by rw [late_step (j := 1) (by decide), late_1]; exact la_2
theorem late_3 : leadK (wLate 0) 3 = la3 := by rw [late_step (j := 2) (by decide), late_2]; exact la_3
theorem late_4 : leadK (wLate 0) 4 = la4 := by rw [late_step (j := 3) (by decide), late_3]; exact la_4
theorem late_5 : leadK (wLate 0) 5 = la5 := by rw [late_step (j := 4) (by decide), late_4]; exact la_5
theorem late_6 : leadK (wLate 0) 6 = la6 := by rw [late_step (j := 5) (by decide), late_5]; exact la_6
theorem late_7 : leadK (wLate 0) 7 = la7 := by rw [late_step (j := 6) (by decide), late_6]; exact la_7
theorem late_8 : leadK (wLate 0) 8 = la8 := by rw [late_step (j := 7) (by decide), late_7]; exact la_8
theorem late_9 : leadK (wLate 0) 9 = la9 := by rw [late_step (j := 8) (by decide), late_8]; exact la_9
theorem late_10 : leadK (wLate 0) 10 = la10 := by rw [late_step (j := 9) (by decide), late_9]; exact la_10
theorem late_11 : leadK (wLate 0) 11 = la11 := by rw [late_step (j := 10) (by decide), late_10]; exact la_11
theorem late_12 : leadK (wLate 0) 12 = la12 := by rw [late_step (j := 11) (by decide), late_11]; exact la_12
theorem late_13 : leadK (wLate 0) 13 = la13 := by rw [late_step (j := 12) (by decide), late_12]; exact la_13
theorem late_14 : leadK (wLate 0) 14 = la14 := by rw [late_step (j := 13) (by decide), late_13]; exact la_14
theorem late_15 : leadK (wLate 0) 15 = la15 := by rw [late_step (j := 14) (by decide), late_14]; exact la_15
theorem late_16 : leadK (wLate 0) 16 = la16 := by rw [late_step (j := 15) (by decide), late_15]; exact la_16
theorem late_17 : leadK (wLate 0) 17 = la17 := by rw [late_step (j := 16) (by decide), late_16]; exact la_17
theorem late_18 : leadK (wLate 0) 18 = la18 := by rw [late_step (j := 17) (by decide), late_17]; exact la_18
theorem late_19 : leadK (wLate 0) 19 = la19 := by rw [late_step (j := 18) (by decide), late_18]; exact la_19
theorem late_20 : leadK (wLate 0) 20 = la20 := by rw [late_step (j := 19) (by decide), late_19]; exact la_20
theorem late_21 : leadK (wLate 0) 21 = la21 := by rw [late_step (j := 20) (by decide), late_20]; exact la_21
theorem late_22 : leadK (wLate 0) 22 = la22 := by rw [late_step (j := 21) (by decide), late_21]; exact la_22
theorem late_23 : leadK (wLate 0) 23 = la23 := by rw [late_step (j := 22) (by decide), late_22]; exact la_23
theorem late_24 : leadK (wLate 0) 24 = la24 := by rw [late_step (j := 23) (by decide), late_23]; exact la_24
theorem late_25 : leadK (wLate 0) 25 = la25 := by rw [late_step (j := 24) (by decide), late_24]; exact la_25
theorem late_26 : leadK (wLate 0) 26 = la26 := by rw [late_step (j := 25) (by decide), late_25]; exact la_26
theorem late_27 : leadK (wLate 0) 27 = la27 := by rw [late_step (j := 26) (by decide), late_26]; exact la_27
theorem late_28 : leadK (wLate 0) 28 = la28 := by rw [late_step (j := 27) (by decide), late_27]; exact la_28
theorem late_29 : leadK (wLate 0) 29 = la29 := by rw [late_step (j := 28) (by decide), late_28]; exact la_29
theorem late_30 : leadK (wLate 0) 30 = la30 := by rw [late_step (j := 29) (by decide), late_29]; exact la_30
theorem late_31 : leadK (wLate 0) 31 = la31 := by rw [late_step (j := 30) (by decide), late_30]; exact la_31
theorem late_32 : leadK (wLate 0) 32 = la32 := by rw [late_step (j := 31) (by decide), late_31]; exact la_32
theorem late_33 : leadK (wLate 0) 33 = la33 := by rw [late_step (j := 32) (by decide), late_32]; exact la_33
theorem late_34 : leadK (wLate 0) 34 = la34 := by rw [late_step (j := 33) (by decide), late_33]; exact la_34
theorem late_35 : leadK (wLate 0) 35 = la35 := by rw [late_step (j := 34) (by decide), late_34]; exact la_35
theorem late_36 : leadK (wLate 0) 36 = la36 := by rw [late_step (j := 35) (by decide), late_35]; exact la_36
theorem late_37 : leadK (wLate 0) 37 = la37 := by rw [late_step (j := 36) (by decide), late_36]; exact la_37
theorem late_38 : leadK (wLate 0) 38 = la38 := by rw [late_step (j := 37) (by decide), late_37]; exact la_38
theorem late_39 : leadK (wLate 0) 39 = la39 := by rw [late_step (j := 38) (by decide), late_38]; exact la_39
theorem late_lead : leadV (wLate 0) = la39 := late_39
theorem n_AccE : Spec Tryd.prog 46 [.agg (bN z32), .agg (wLate 0).cells] [] (.tup [.t (.b false) true, .t (.i .i64 0) true]) := by
  have h := s_AcceptT z32 rfl _ (wLate_fine 0 (by decide) (by decide))
  have hv : (wLate 0).valid = true := by decide +kernel
  have hn : accB (wLate 0) z32 = false := by unfold accB; rw [if_pos hv, late_lead]; decide
  rw [hn, show accE (wLate 0) = 0 from if_pos hv] at h
  exact h
theorem n_ComA : Spec Tryd.prog 48 [.sl (lnT [lnZ]), .sl (lnT (lnZs 41))] [] (.tup [.t (.i .i64 0) true, .t (.i .i64 22) true]) := by
  have h := s_chain_Common [lnZ] (lnZs 41) lnZ_OK (lnZs_OK 41)
  have he : comE [lnZ] (lnZs 41) = 22 := by unfold comE; rw [if_neg (by rw [lnZ_head]; decide), lnZ_head]
  rw [he, show comV [lnZ] (lnZs 41) = 0 from if_neg (by rw [he]; decide)] at h
  exact h
theorem big_check : checkV [lnBig] = 8 := by decide +kernel
theorem n_ComB : Spec Tryd.prog 48 [.sl [], .sl (lnT [lnBig])] [] (.tup [.t (.i .i64 0) true, .t (.i .i64 8) true]) := by
  have h := s_chain_Common [] [lnBig] nil_OK big_OK
  have he : comE [] [lnBig] = 8 := by
    unfold comE
    rw [if_pos nil_head]
    unfold headE
    rw [if_neg (by rw [big_check]; decide), big_check]
  rw [he, show comV [] [lnBig] = 0 from if_neg (by rw [he]; decide)] at h
  exact h
theorem comN_self : ∀ l : List Lnk, comN l l = l.length
  | [] => rfl
  | x :: l => by simp [comN, comN_self l]
theorem n_ComC : Spec Tryd.prog 48 [.sl (lnT fullL), .sl (lnT fullL)] [] (.tup [.t (.i .i64 40) true, .t (.i .i64 0) true]) := by
  have h := s_chain_Common fullL fullL full_OK full_OK
  have he : comE fullL fullL = 0 := by unfold comE; rw [if_pos full_head, full_head]
  rw [he, show comV fullL fullL = 40 by unfold comV; rw [if_pos he, comN_self, full_len]; rfl] at h
  exact h
theorem n_CheckA : Spec Tryd.prog 41 [.sl (lnT (lnZs 41))] [] (.t (.i .i64 4) true) := by
  have h := s_chain_Check (lnZs 41) (lnZs_OK 41)
  rw [show checkV (lnZs 41) = 4 by decide +kernel] at h
  exact h
theorem n_CheckB : Spec Tryd.prog 41 [.sl (lnT [lnBig])] [] (.t (.i .i64 8) true) := by
  have h := s_chain_Check [lnBig] big_OK
  rw [big_check] at h
  exact h
end Go.Proofs.YtgkmhmhbepfiaaaDoor.Pm
